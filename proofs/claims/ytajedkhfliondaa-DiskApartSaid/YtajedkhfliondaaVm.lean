/-
  The logic of partial frames and heaps: a walk that names only the slots and blocks that matter.
  Conditions: none; it is a library of lemmas over any program.
-/
import Derived.Orders
import Derived.Tactics
import Derived.Below
import Derived.KernelRfl
namespace Go.Vm
open Go Go.RowKit

abbrev Fr := List (Nat × Value)
abbrev Hp := List (Nat × Obj)

def look : Fr → Nat → Option Value
  | [], _ => none
  | (s, v) :: r, t => match Nat.beq s t with | true => some v | false => look r t

theorem look_eq {s t : Nat} {v : Value} {r : Fr} : look ((s, v) :: r) t = if s = t then some v else look r t := by
  simp only [look]
  by_cases h : s = t
  · subst h; simp
  · have : Nat.beq s t = false := by cases hb : Nat.beq s t with | false => rfl | true => exact absurd (Nat.eq_of_beq_eq_true hb) h
    simp [this, h]

def ev (F : Fr) : Operand → Option Value
  | .tmp t => look F t
  | .const v => some v
  | .global g => some (.pointer (some ⟨g, 0, none⟩))
  | .func f => some (.func (.func f) #[] #[])

def Slots (F : Fr) (a : Act) : Prop := ∀ t v, look F t = some v → a.tmps[t]? = some v
def Blocks (H : Hp) (w : World) : Prop := ∀ p ∈ H, w.heap[p.1]? = some p.2

theorem Slots.ev {F : Fr} {a : Act} (h : Slots F a) {x : Operand} {v : Value} (hv : ev F x = some v) : a.eval x = v := by
  cases x with
  | tmp t => have := h t v hv; simp [Act.eval, this]
  | const u => simpa [Vm.ev, Act.eval] using hv
  | global g => simpa [Vm.ev, Act.eval] using hv
  | func f => simpa [Vm.ev, Act.eval] using hv

def Sub : Fr → Fr → Prop
  | [], _ => True
  | (s, v) :: r, F => look F s = some v ∧ Sub r F

theorem Sub.look {F' F : Fr} (h : Sub F' F) : ∀ t v, look F' t = some v → look F t = some v := by
  induction F' with
  | nil => intro t v ht; cases ht
  | cons p r ih =>
    obtain ⟨s, u⟩ := p
    obtain ⟨h1, h2⟩ := h
    intro t v ht
    rw [look_eq] at ht
    by_cases hs : s = t
    · subst hs; simp at ht; subst ht; exact h1
    · simp [hs] at ht; exact ih h2 t v ht

section
variable {P : Program} {n : Nat} {K : List Nat} {G : Hp} {w0 : World}

structure Old (K : List Nat) (G : Hp) (w0 w : World) : Prop where
  os : w.os = w0.os
  tape : w.tape = w0.tape
  output : w.output = w0.output
  size : w0.heap.size ≤ w.heap.size
  old : ∀ i, i < w0.heap.size → i ∉ K → w.heap[i]? = w0.heap[i]?
  ro : ∀ p ∈ G, w0.heap[p.1]? = some p.2 ∧ p.1 ∉ K

structure Rep (n : Nat) (K : List Nat) (G : Hp) (w0 : World) (F : Fr) (H : Hp) (a : Act) (w : World) : Prop where
  size : a.tmps.size = n
  defers : a.defers = []
  slots : Slots F a
  blocks : Blocks H w
  nodup : (H.map (·.1)).Nodup
  mine : ∀ p ∈ H, p.1 ∈ K ∨ w0.heap.size ≤ p.1
  old : Old K G w0 w

theorem lt_of_some {w : World} {b : Nat} {o : Obj} (h : w.heap[b]? = some o) : b < w.heap.size := (Array.getElem?_eq_some_iff.1 h).1

theorem Old.below {w w' : World} (h : Old K G w0 w) (hb : Below w.heap.size w w') : Old K G w0 w' :=
  ⟨hb.os.trans h.os, hb.tape.trans h.tape, hb.output.trans h.output, Nat.le_trans h.size hb.size,
   fun i hi hk => (hb.block i (Nat.lt_of_lt_of_le hi h.size)).trans (h.old i hi hk), h.ro⟩

theorem Old.look {w : World} (h : Old K G w0 w) {p : Nat × Obj} (hp : p ∈ G) : w.heap[p.1]? = some p.2 := by
  obtain ⟨h1, h2⟩ := h.ro p hp
  rw [h.old p.1 (lt_of_some h1) h2]; exact h1

theorem Blocks.below {H : Hp} {w w' : World} (h : Blocks H w) (hb : Below w.heap.size w w') : Blocks H w' :=
  fun p hp => (hb.block p.1 (lt_of_some (h p hp))).trans (h p hp)

theorem Slots.put {F : Fr} {a : Act} (h : Slots F a) {d : Nat} {v : Value} (hd : d < a.tmps.size) : Slots ((d, v) :: F) (a.put (some d) v) := by
  intro t u ht
  rw [look_eq] at ht
  simp only [Act.put, Array.getElem?_setIfInBounds]
  by_cases hs : d = t
  · subst hs; simp at ht; subst ht; simp [hd]
  · simp [hs] at ht ⊢; exact h t u ht

theorem Slots.sub {F F' : Fr} {a : Act} (h : Slots F a) (hs : Sub F' F) : Slots F' a := fun t v ht => h t v (hs.look t v ht)

theorem Rep.det {F : Fr} {H : Hp} {a : Act} {w w' : World} {d : Nat} {v : Value} (r : Rep n K G w0 F H a w) (hd : d < n) (hb : Below w.heap.size w w') :
    Rep n K G w0 ((d, v) :: F) H (a.put (some d) v) w' :=
  ⟨by simp [Act.put, r.size], by simp [Act.put, r.defers], r.slots.put (by rw [r.size]; exact hd), r.blocks.below hb, r.nodup, r.mine, r.old.below hb⟩

theorem Rep.put {F : Fr} {H : Hp} {a : Act} {w : World} {d : Nat} {v : Value} (r : Rep n K G w0 F H a w) (hd : d < n) :
    Rep n K G w0 ((d, v) :: F) H (a.put (some d) v) w := r.det hd (Below.refl _ _)

theorem below_alloc (w : World) (o : Obj) : Below w.heap.size w (w.alloc o) := (Below.refl _ _).alloc (Nat.le_refl _) o

theorem Rep.fresh {F : Fr} {H : Hp} {a : Act} {w : World} {d : Nat} {v : Value} {o : Obj} (r : Rep n K G w0 F H a w) (hd : d < n) :
    Rep n K G w0 ((d, v) :: F) ((w.heap.size, o) :: H) (a.put (some d) v) (w.alloc o) := by
  have hb := below_alloc w o
  have h := r.det (d := d) (v := v) hd hb
  refine ⟨h.size, h.defers, h.slots, ?_, ?_, ?_, h.old⟩
  · intro p hp
    rcases List.mem_cons.1 hp with rfl | hp
    · show (w.heap.push o)[w.heap.size]? = some o
      simp
    · exact h.blocks p hp
  · simp only [List.map_cons, List.nodup_cons]
    refine ⟨fun hm => ?_, r.nodup⟩
    obtain ⟨p, hp, he⟩ := List.mem_map.1 hm
    have := lt_of_some (r.blocks p hp)
    have he : p.1 = w.heap.size := he
    omega
  · intro p hp
    rcases List.mem_cons.1 hp with rfl | hp
    · exact Or.inr r.old.size
    · exact r.mine p hp

/-- An update of the block b in a heap. -/
inductive Upd : Hp → Nat → Obj → Obj → Hp → Prop
  | here {H : Hp} {b : Nat} {o o' : Obj} : Upd ((b, o) :: H) b o o' ((b, o') :: H)
  | there {H H' : Hp} {b : Nat} {o o' : Obj} {p : Nat × Obj} (h : Upd H b o o' H') : Upd (p :: H) b o o' (p :: H')

theorem Upd.mem {H H' : Hp} {b : Nat} {o o' : Obj} (h : Upd H b o o' H') : (b, o) ∈ H := by
  induction h with
  | here => exact List.mem_cons_self
  | there _ ih => exact List.mem_cons_of_mem _ ih
theorem Upd.keys {H H' : Hp} {b : Nat} {o o' : Obj} (h : Upd H b o o' H') : H'.map (·.1) = H.map (·.1) := by
  induction h with
  | here => rfl
  | there _ ih => simp [ih]
theorem Upd.mem' {H H' : Hp} {b : Nat} {o o' : Obj} (h : Upd H b o o' H') {p : Nat × Obj} (hp : p ∈ H') (hn : (H.map (·.1)).Nodup) : p = (b, o') ∨ (p ∈ H ∧ p.1 ≠ b) := by
  induction h with
  | here =>
    rcases List.mem_cons.1 hp with rfl | hp
    · exact .inl rfl
    · refine .inr ⟨List.mem_cons_of_mem _ hp, fun e => ?_⟩
      simp only [List.map_cons, List.nodup_cons] at hn
      exact hn.1 (List.mem_map.2 ⟨p, hp, e⟩)
  | there h' ih =>
    simp only [List.map_cons, List.nodup_cons] at hn
    rcases List.mem_cons.1 hp with rfl | hp
    · refine .inr ⟨List.mem_cons_self, fun e => ?_⟩
      exact hn.1 (List.mem_map.2 ⟨_, h'.mem, e.symm⟩)
    · rcases ih hp hn.2 with h1 | ⟨h1, h2⟩
      · exact .inl h1
      · exact .inr ⟨List.mem_cons_of_mem _ h1, h2⟩

/-- World w' is w but for block b, which holds o' now. -/
structure Wrote (w w' : World) (b : Nat) (o' : Obj) : Prop where
  os : w'.os = w.os
  tape : w'.tape = w.tape
  output : w'.output = w.output
  size : w'.heap.size = w.heap.size
  at_ : w'.heap[b]? = some o'
  other : ∀ i, i ≠ b → w'.heap[i]? = w.heap[i]?

theorem Rep.wrote {F : Fr} {H H' : Hp} {a : Act} {w w' : World} {b : Nat} {o o' : Obj} (r : Rep n K G w0 F H a w) (hu : Upd H b o o' H') (hw : Wrote w w' b o') :
    Rep n K G w0 F H' a w' := by
  refine ⟨r.size, r.defers, r.slots, ?_, by rw [hu.keys]; exact r.nodup, ?_, ?_⟩
  · intro p hp
    rcases hu.mem' hp r.nodup with rfl | ⟨h1, h2⟩
    · exact hw.at_
    · rw [hw.other _ h2]; exact r.blocks p h1
  · intro p hp
    rcases hu.mem' hp r.nodup with rfl | ⟨h1, h2⟩
    · exact r.mine (b, o) hu.mem
    · exact r.mine p h1
  · refine ⟨hw.os.trans r.old.os, hw.tape.trans r.old.tape, hw.output.trans r.old.output, by rw [hw.size]; exact r.old.size, ?_, r.old.ro⟩
    intro i hi hk
    have : i ≠ b := by
      rintro rfl
      rcases r.mine _ hu.mem with h | h
      · exact hk h
      · exact absurd hi (Nat.not_lt.2 h)
    rw [hw.other i this]; exact r.old.old i hi hk

/-! ### Code -/

def W (P : Program) (n : Nat) (K : List Nat) (G : Hp) (w0 : World) (c : Code) (Q : Exit → Fr → Hp → Prop) (F : Fr) (H : Hp) : Prop :=
  ∀ a w, Rep n K G w0 F H a w → c.wp P (fun e a' w' => ∃ F' H', Q e F' H' ∧ Rep n K G w0 F' H' a' w') a w

def andThen (P : Program) (n : Nat) (K : List Nat) (G : Hp) (w0 : World) (c : Code) (Q : Exit → Fr → Hp → Prop) : Exit → Fr → Hp → Prop
  | .normal, F, H => W P n K G w0 c Q F H
  | e, F, H => Q e F H

theorem W.mono {c : Code} {Q Q' : Exit → Fr → Hp → Prop} {F : Fr} {H : Hp} (h : W P n K G w0 c Q F H) (hq : ∀ e F H, Q e F H → Q' e F H) : W P n K G w0 c Q' F H :=
  fun a w r => wp_mono (h a w r) fun _ _ _ ⟨F', H', q, r'⟩ => ⟨F', H', hq _ _ _ q, r'⟩

theorem W.seq {x y : Code} {Q : Exit → Fr → Hp → Prop} {F : Fr} {H : Hp} (h : W P n K G w0 x (andThen P n K G w0 y Q) F H) : W P n K G w0 (x.seq y) Q F H := by
  intro a w r
  refine wp_seq (wp_mono (h a w r) ?_)
  rintro e a' w' ⟨F', H', q, r'⟩
  cases e with
  | normal => exact q a' w' r'
  | _ => exact ⟨F', H', q, r'⟩

theorem W.skip {Q : Exit → Fr → Hp → Prop} {F : Fr} {H : Hp} (h : Q .normal F H) : W P n K G w0 .skip Q F H := fun _ _ r => wp_skip ⟨F, H, h, r⟩
theorem W.ret {Q : Exit → Fr → Hp → Prop} {F : Fr} {H : Hp} (h : Q .ret F H) : W P n K G w0 .ret Q F H := fun _ _ r => wp_ret ⟨F, H, h, r⟩
theorem W.exit {id : Nat} {Q : Exit → Fr → Hp → Prop} {F : Fr} {H : Hp} (h : Q (.exit id) F H) : W P n K G w0 (.exit id) Q F H := fun _ _ r => wp_exit ⟨F, H, h, r⟩

def inBlk (id : Nat) (Q : Exit → Fr → Hp → Prop) : Exit → Fr → Hp → Prop
  | .exit id', F, H => match Nat.beq id' id with | true => Q .normal F H | false => Q (.exit id') F H
  | e, F, H => Q e F H

theorem W.block {id : Nat} {c : Code} {Q : Exit → Fr → Hp → Prop} {F : Fr} {H : Hp} (h : W P n K G w0 c (inBlk id Q) F H) : W P n K G w0 (.block id c) Q F H := by
  intro a w r
  refine wp_block (wp_mono (h a w r) ?_)
  rintro e a' w' ⟨F', H', q, r'⟩
  cases e with
  | exit id' =>
    simp only [Exit.inBlock]
    simp only [inBlk] at q
    by_cases hid : id' = id
    · subst hid; simp at q ⊢; exact ⟨F', H', q, r'⟩
    · have : Nat.beq id' id = false := by cases hb : Nat.beq id' id with | false => rfl | true => exact absurd (Nat.eq_of_beq_eq_true hb) hid
      simp [this] at q; simp [hid]; exact ⟨F', H', q, r'⟩
  | _ => exact ⟨F', H', q, r'⟩

theorem W.cond_true {c : Operand} {x y : Code} {Q : Exit → Fr → Hp → Prop} {F : Fr} {H : Hp} (hc : ev F c = some (.bool true)) (h : W P n K G w0 x Q F H) : W P n K G w0 (.cond c x y) Q F H :=
  fun a w r => wp_cond_true (r.slots.ev hc) (h a w r)
theorem W.cond_false {c : Operand} {x y : Code} {Q : Exit → Fr → Hp → Prop} {F : Fr} {H : Hp} (hc : ev F c = some (.bool false)) (h : W P n K G w0 y Q F H) : W P n K G w0 (.cond c x y) Q F H :=
  fun a w r => wp_cond_false (r.slots.ev hc) (h a w r)
theorem W.cond {c : Operand} {x y : Code} {Q : Exit → Fr → Hp → Prop} {F : Fr} {H : Hp} {t : Bool} (hc : ev F c = some (.bool t)) (ht : t = true → W P n K G w0 x Q F H) (hf : t = false → W P n K G w0 y Q F H) : W P n K G w0 (.cond c x y) Q F H :=
  fun a w r => wp_cond_split (r.slots.ev hc) (fun e => ht e a w r) (fun e => hf e a w r)

theorem Rep.less {F : Fr} {H H' : Hp} {a : Act} {w : World} (r : Rep n K G w0 F H a w) (hH : H'.Sublist H) : Rep n K G w0 F H' a w :=
  ⟨r.size, r.defers, r.slots, fun p hp => r.blocks p (hH.subset hp), (hH.map _).nodup r.nodup, fun p hp => r.mine p (hH.subset hp), r.old⟩

theorem Rep.sub {F F' : Fr} {H H' : Hp} {a : Act} {w : World} (r : Rep n K G w0 F H a w) (hF : Sub F' F) (hH : H'.Sublist H) : Rep n K G w0 F' H' a w :=
  ⟨r.size, r.defers, r.slots.sub hF, fun p hp => r.blocks p (hH.subset hp), (hH.map _).nodup r.nodup, fun p hp => r.mine p (hH.subset hp), r.old⟩

theorem Rep.perm {F : Fr} {H H' : Hp} {a : Act} {w : World} (r : Rep n K G w0 F H a w) (hH : H'.Perm H) : Rep n K G w0 F H' a w :=
  ⟨r.size, r.defers, r.slots, fun p hp => r.blocks p (hH.subset hp), ((hH.map _).nodup_iff).2 r.nodup, fun p hp => r.mine p (hH.subset hp), r.old⟩

theorem W.sub {F F' : Fr} {H H' : Hp} {c : Code} {Q : Exit → Fr → Hp → Prop} (hF : Sub F' F) (hH : H'.Sublist H) (h : W P n K G w0 c Q F' H') : W P n K G w0 c Q F H :=
  fun a w r => h a w (r.sub hF hH)
theorem W.keep {F F' : Fr} {H : Hp} {c : Code} {Q : Exit → Fr → Hp → Prop} (hF : Sub F' F) (h : W P n K G w0 c Q F' H) : W P n K G w0 c Q F H :=
  fun a w r => h a w (r.sub hF (List.Sublist.refl _))
theorem W.perm {F : Fr} {H H' : Hp} {c : Code} {Q : Exit → Fr → Hp → Prop} (hH : H'.Perm H) (h : W P n K G w0 c Q F H') : W P n K G w0 c Q F H :=
  fun a w r => h a w (r.perm hH)

/-- What a round of a loop has to show at its end. -/
def roundEnd {σ : Type} (FI : σ → Fr) (HI : σ → Hp) (ok : σ → Prop) (μ : σ → Nat) (s : σ) (Q : Exit → Fr → Hp → Prop) : Exit → Fr → Hp → Prop
  | .normal, F', H' => ∃ s', ok s' ∧ Sub (FI s') F' ∧ (HI s').Sublist H' ∧ μ s' < μ s
  | e, F', H' => Q e F' H'

theorem W.loop {σ : Type} (FI : σ → Fr) (HI : σ → Hp) (ok : σ → Prop) (μ : σ → Nat) {c : Code} {Q : Exit → Fr → Hp → Prop} {F : Fr} {H : Hp} (s0 : σ) (h0 : ok s0)
    (hF : Sub (FI s0) F) (hH : (HI s0).Sublist H) (round : ∀ s, ok s → W P n K G w0 c (roundEnd FI HI ok μ s Q) (FI s) (HI s)) : W P n K G w0 (.loop c) Q F H := by
  intro a w r
  -- the measure rides on the invariant
  let I : Nat → Act → World → Prop := fun m a w => ∃ s, ok s ∧ μ s = m ∧ Rep n K G w0 (FI s) (HI s) a w
  have key : ∀ m a w, I m a w → ∀ (b : Frame) (k : List Item) (cs : List Frame),
      ∃ e a' w', (∃ F' H', Q e F' H' ∧ Rep n K G w0 F' H' a' w') ∧ Arrives P (lone (b.at a (.code c :: .inLoop c :: k)) cs w) b k cs e a' w' := by
    intro m
    induction m using Nat.strongRecOn with
    | _ m ih =>
      rintro a w ⟨s, hs, hm, hr⟩ b k cs
      obtain ⟨e, a₁, w₁, ⟨F', H', hq, hr'⟩, harr⟩ := round s hs a w hr b (.inLoop c :: k) cs
      cases e with
      | normal =>
        obtain ⟨s', hs', hF', hH', hlt⟩ := hq
        obtain ⟨e₂, a₂, w₂, hq₂, harr₂⟩ := ih (μ s') (hm ▸ hlt) a₁ w₁ ⟨s', hs', rfl, hr'.sub hF' hH'⟩ b k cs
        exact ⟨e₂, a₂, w₂, hq₂, .of_steps (Steps.trans harr (.one step_inLoop)) harr₂⟩
      | exit id => exact ⟨_, a₁, w₁, ⟨F', H', hq, hr'⟩, .pass (x := .inLoop c) rfl (fun _ _ => .inl (by simp)) harr⟩
      | goto l => exact ⟨_, a₁, w₁, ⟨F', H', hq, hr'⟩, .pass (x := .inLoop c) rfl (fun _ _ => .inl (by simp)) harr⟩
      | ret => exact ⟨_, a₁, w₁, ⟨F', H', hq, hr'⟩, .pass (x := .inLoop c) rfl (fun _ _ => .inl (by simp)) harr⟩
      | panic ch => exact ⟨_, a₁, w₁, ⟨F', H', hq, hr'⟩, .pass (x := .inLoop c) rfl (fun _ _ => .inl (by simp)) harr⟩
      | outgrown => exact ⟨_, a₁, w₁, ⟨F', H', hq, hr'⟩, .pass (x := .inLoop c) rfl (fun _ _ => .inl (by simp)) harr⟩
  intro b k cs
  obtain ⟨e, a', w', hq, harr⟩ := key _ a w ⟨s0, h0, rfl, r.sub hF hH⟩ b k cs
  exact ⟨e, a', w', hq, .of_steps (.one step_loop) harr⟩

/-! ### Regions in the text's order -/

def OpsW (P : Program) (n : Nat) (K : List Nat) (G : Hp) (w0 : World) (ops : Array Oper) (l : List Oper) (R : Fr → Hp → Prop) (F : Fr) (H : Hp) : Prop :=
  ∀ a w Qx, Rep n K G w0 F H a w → (∀ F' H' a' w', R F' H' → Rep n K G w0 F' H' a' w' → Qx Exit.normal a' w') → wpList P ops Qx l a w

theorem W.region {id : Nat} {l : List Oper} {Q : Exit → Fr → Hp → Prop} {F : Fr} {H : Hp} (h : OpsW P n K G w0 l.toArray l (Q .normal) F H) :
    W P n K G w0 (.region id l.toArray false) Q F H :=
  fun a w r => wp_region_lit (h a w _ r fun F' H' _ _ q r' => ⟨F', H', q, r'⟩)

/-- In every act and world that bear F and H the operation leaves v in its slot, and new blocks at most. -/
def Det (P : Program) (K : List Nat) (G : Hp) (w0 : World) (o : Oper) (F : Fr) (H : Hp) (v : Value) : Prop :=
  ∀ a w, Slots F a → Blocks H w → Old K G w0 w → ∀ (next : Act → World → Prop) (Qx : Exit → Act → World → Prop),
    (∀ w', Below w.heap.size w w' → next (a.put o.dst v) w') → o.wp P a w next Qx

theorem OpsW.nil {ops : Array Oper} {R : Fr → Hp → Prop} {F : Fr} {H : Hp} (h : R F H) : OpsW P n K G w0 ops [] R F H :=
  fun _ _ _ r hq => wpList_nil (hq _ _ _ _ h r)

theorem wpList_any {ops : Array Oper} {Q : Exit → Act → World → Prop} {a : Act} {w : World} {rest : List Oper} {d : Option Tmp} {op : Op} {ty : TypeId} {pos : String} {after : Array Edge}
    (h : Oper.wp P ⟨d, op, ty, pos, after, none⟩ a w (wpList P ops Q rest) Q) : wpList P ops Q (⟨d, op, ty, pos, after, none⟩ :: rest) a w :=
  wpList_plain rfl fun _ hK => Oper.wp_mono hK h

theorem OpsW.det {ops : Array Oper} {rest : List Oper} {d : Nat} {op : Op} {ty : TypeId} {pos : String} {after : Array Edge} {R : Fr → Hp → Prop} {F : Fr} {H : Hp} {v : Value}
    (hdet : Det P K G w0 ⟨some d, op, ty, pos, after, none⟩ F H v) (hd : Nat.blt d n = true) (h : OpsW P n K G w0 ops rest R ((d, v) :: F) H) :
    OpsW P n K G w0 ops (⟨some d, op, ty, pos, after, none⟩ :: rest) R F H :=
  fun a w Qx r hq => wpList_any (hdet a w r.slots r.blocks r.old _ _ fun _ hb => h _ _ _ (r.det (of_decide_eq_true (by simpa using hd)) hb) hq)

/-- The operation makes one new block, and leaves what 'mk' says of its number. -/
def Fresh (P : Program) (K : List Nat) (G : Hp) (w0 : World) (o : Oper) (F : Fr) (mk : Nat → Value) (ob : Obj) : Prop :=
  ∀ a w, Slots F a → Old K G w0 w → (execOp a.eval o).run P w = .ok (.value (mk w.heap.size)) (w.alloc ob)

theorem OpsW.fresh {ops : Array Oper} {rest : List Oper} {d : Nat} {op : Op} {ty : TypeId} {pos : String} {after : Array Edge} {R : Fr → Hp → Prop} {F : Fr} {H : Hp} {mk : Nat → Value} {ob : Obj}
    (hf : Fresh P K G w0 ⟨some d, op, ty, pos, after, none⟩ F mk ob) (hd : Nat.blt d n = true) (h : ∀ b, OpsW P n K G w0 ops rest R ((d, mk b) :: F) ((b, ob) :: H)) :
    OpsW P n K G w0 ops (⟨some d, op, ty, pos, after, none⟩ :: rest) R F H :=
  fun a w Qx r hq => wpList_any (by
    unfold Oper.wp
    rw [hf a w r.slots r.old]
    exact h _ _ _ _ (r.fresh (of_decide_eq_true (by simpa using hd))) hq)

/-- What an operation that makes new blocks leaves: a block's number, a capacity, spare cells. -/
abbrev Prm := Nat × Nat × List Value

/-- The operation leaves 'mk p', and the new blocks 'ob p', for some p that is 'ok'. -/
def New (P : Program) (K : List Nat) (G : Hp) (w0 : World) (o : Oper) (F : Fr) (H : Hp) (mk : Prm → Value) (ob : Prm → Hp) (ok : Prm → Prop) : Prop :=
  ∀ a w, Slots F a → Blocks H w → Old K G w0 w → ∀ (next : Act → World → Prop) (Qx : Exit → Act → World → Prop),
    (∀ p w', ok p → Below w.heap.size w w' → Blocks (ob p) w' → ((ob p).map (·.1)).Nodup → (∀ q ∈ ob p, w.heap.size ≤ q.1) → next (a.put o.dst (mk p)) w') → o.wp P a w next Qx

theorem Rep.new {F : Fr} {H H' : Hp} {a : Act} {w w' : World} {d : Nat} {v : Value} (r : Rep n K G w0 F H a w) (hd : d < n) (hb : Below w.heap.size w w')
    (h1 : Blocks H' w') (h2 : (H'.map (·.1)).Nodup) (h3 : ∀ q ∈ H', w.heap.size ≤ q.1) : Rep n K G w0 ((d, v) :: F) (H' ++ H) (a.put (some d) v) w' := by
  have h := r.det (d := d) (v := v) hd hb
  refine ⟨h.size, h.defers, h.slots, ?_, ?_, ?_, h.old⟩
  · intro p hp
    rcases List.mem_append.1 hp with hp | hp
    · exact h1 p hp
    · exact h.blocks p hp
  · rw [List.map_append, List.nodup_append]
    refine ⟨h2, r.nodup, fun x hx y hy hxy => ?_⟩
    obtain ⟨p, hp, rfl⟩ := List.mem_map.1 hx
    obtain ⟨q, hq, rfl⟩ := List.mem_map.1 hy
    have := lt_of_some (r.blocks q hq)
    have := h3 p hp
    omega
  · intro p hp
    rcases List.mem_append.1 hp with hp | hp
    · exact Or.inr (Nat.le_trans r.old.size (h3 p hp))
    · exact r.mine p hp

theorem OpsW.new {ops : Array Oper} {rest : List Oper} {d : Nat} {op : Op} {ty : TypeId} {pos : String} {after : Array Edge} {R : Fr → Hp → Prop} {F : Fr} {H : Hp} {mk : Prm → Value} {ob : Prm → Hp} {ok : Prm → Prop}
    (hf : New P K G w0 ⟨some d, op, ty, pos, after, none⟩ F H mk ob ok) (hd : Nat.blt d n = true) (h : ∀ p, ok p → OpsW P n K G w0 ops rest R ((d, mk p) :: F) (ob p ++ H)) :
    OpsW P n K G w0 ops (⟨some d, op, ty, pos, after, none⟩ :: rest) R F H :=
  fun a w Qx r hq => wpList_any (hf a w r.slots r.blocks r.old _ _ fun p w' hp hb h1 h2 h3 => h p hp _ _ _ (r.new (of_decide_eq_true (by simpa using hd)) hb h1 h2 h3) hq)

theorem Fresh.new {o : Oper} {F : Fr} {H : Hp} {mk : Nat → Value} {ob : Obj} (h : Fresh P K G w0 o F mk ob) : New P K G w0 o F H (fun p => mk p.1) (fun p => [(p.1, ob)]) (fun _ => True) :=
  fun a w hs _ ho next Qx hn => by
    unfold Oper.wp
    rw [h a w hs ho]
    refine hn (w.heap.size, 0, []) _ trivial (below_alloc w ob) ?_ (by simp) (by simp)
    intro p hp
    simp only [List.mem_singleton] at hp
    subst hp
    show (w.heap.push ob)[w.heap.size]? = some ob
    simp

/-- The operation writes one block. -/
def Writes (P : Program) (o : Oper) (F : Fr) (H : Hp) (b : Nat) (ob ob' : Obj) : Prop :=
  ∀ a w, Slots F a → Blocks H w → w.heap[b]? = some ob → ∃ w', (execOp a.eval o).run P w = .ok .skip w' ∧ Wrote w w' b ob'

theorem OpsW.write {ops : Array Oper} {rest : List Oper} {op : Op} {ty : TypeId} {pos : String} {after : Array Edge} {R : Fr → Hp → Prop} {F : Fr} {H H' : Hp} {b : Nat} {ob ob' : Obj}
    (hf : Writes P ⟨none, op, ty, pos, after, none⟩ F H b ob ob') (hu : Upd H b ob ob' H') (h : OpsW P n K G w0 ops rest R F H') :
    OpsW P n K G w0 ops (⟨none, op, ty, pos, after, none⟩ :: rest) R F H :=
  fun a w Qx r hq => wpList_any (by
    obtain ⟨w', hr, hw⟩ := hf a w r.slots r.blocks (r.blocks _ hu.mem)
    unfold Oper.wp
    rw [hr]
    exact h _ _ _ (r.wrote hu hw) hq)

/-- A guarded operation whose guard is known. -/
theorem OpsW.guard_no {ops : Array Oper} {rest : List Oper} {d : Nat} {op : Op} {ty : TypeId} {pos : String} {after : Array Edge} {g : Nat} {t : Bool} {R : Fr → Hp → Prop} {F : Fr} {H : Hp} {s : Nat}
    (hg : (ops[g]?).bind (·.dst) = some s) (hv : look F s = some (.bool (!t))) (hd : Nat.blt d n = true) (h : OpsW P n K G w0 ops rest R ((d, undef) :: F) H) :
    OpsW P n K G w0 ops (⟨some d, op, ty, pos, after, some (g, t)⟩ :: rest) R F H :=
  fun a w Qx r hq => by
    have hy : Region.wanted ⟨some d, op, ty, pos, after, some (g, t)⟩ (yielded ops a.tmps) = false := by
      have := r.slots s _ hv
      cases t <;> simp [Region.wanted, yielded, hg, this]
    unfold wpList
    rw [hy]
    exact h _ _ _ (r.put (of_decide_eq_true (by simpa using hd))) hq

theorem OpsW.guard_yes {ops : Array Oper} {rest : List Oper} {d : Option Tmp} {op : Op} {ty : TypeId} {pos : String} {after : Array Edge} {g : Nat} {t : Bool} {R : Fr → Hp → Prop} {F : Fr} {H : Hp} {s : Nat}
    (hg : (ops[g]?).bind (·.dst) = some s) (hv : look F s = some (.bool t)) (h : OpsW P n K G w0 ops (⟨d, op, ty, pos, after, none⟩ :: rest) R F H) :
    OpsW P n K G w0 ops (⟨d, op, ty, pos, after, some (g, t)⟩ :: rest) R F H :=
  fun a w Qx r hq => by
    have hy : Region.wanted ⟨d, op, ty, pos, after, some (g, t)⟩ (yielded ops a.tmps) = true := by
      have := r.slots s _ hv
      cases t <;> simp [Region.wanted, yielded, hg, this]
    have h1 := h a w Qx r hq
    unfold wpList at h1 ⊢
    rw [hy]
    have hn : Region.wanted ⟨d, op, ty, pos, after, none⟩ (yielded ops a.tmps) = true := by simp [Region.wanted]
    rw [hn] at h1
    rcases h1 with h1 | ⟨h1, h2⟩
    · exact .inl h1
    · exact .inr ⟨h1, h2⟩

end
end Go.Vm
