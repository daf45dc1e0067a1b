/-
  Regions that draw their order, in the logic of partial frames and heaps: whatever order is drawn, what is still at the head yields the same values, and the tail goes in the text's order.
  Conditions: none; it is a library of lemmas over any program.
-/
import Derived.Test.YtajedkhfliondaaVmOps
import Derived.StillTail
namespace Go.Vm
open Go Go.RowKit

/-- What an operation at a region's head leaves. -/
inductive HE where
  | det (d : Nat) (v : Value)
  | flt (d : Nat) (v : Value)
  | fresh (d : Nat) (mk : Prm → Value) (ob : Prm → Hp) (ok : Prm → Prop)
  | dep (d : Nat) (ds : List Nat) (g : List Prm → Value)

def HE.dst : HE → Nat
  | .det d _ => d
  | .flt d _ => d
  | .fresh d _ _ _ => d
  | .dep d _ _ => d
/-- An operation that only computes, and for which the tail need not wait. -/
def HE.floats : HE → Bool
  | .flt _ _ => true
  | _ => false
def HE.val (β : Nat → Prm) : HE → Value
  | .det _ v => v
  | .flt _ v => v
  | .fresh d mk _ _ => mk (β d)
  | .dep _ ds g => g (ds.map β)

def allF (β : Nat → Prm) : List HE → Fr
  | [] => []
  | .det d v :: r => (d, v) :: allF β r
  | .flt d v :: r => (d, v) :: allF β r
  | .fresh d mk _ _ :: r => (d, mk (β d)) :: allF β r
  | .dep d ds g :: r => (d, g (ds.map β)) :: allF β r
def allH (β : Nat → Prm) : List HE → Hp
  | [] => []
  | .det _ _ :: r => allH β r
  | .flt _ _ :: r => allH β r
  | .fresh d _ ob _ :: r => ob (β d) ++ allH β r
  | .dep _ _ _ :: r => allH β r
def allOk (β : Nat → Prm) : List HE → Prop
  | [] => True
  | .det _ _ :: r => allOk β r
  | .flt _ _ :: r => allOk β r
  | .fresh d _ _ ok :: r => ok (β d) ∧ allOk β r
  | .dep _ _ _ :: r => allOk β r
/-- Of the entries those at some places. -/
def pickE (es : List HE) : List Nat → List HE
  | [] => []
  | j :: r => match es[j]? with
    | some e => e :: pickE es r
    | none => pickE es r
def avF (F0 : Fr) (es : List HE) (pl : List Nat) (β : Nat → Prm) : Fr := allF β (pickE es pl) ++ F0
def avH (H0 : Hp) (es : List HE) (pl : List Nat) (β : Nat → Prm) : Hp := allH β (pickE es pl) ++ H0

def clAt (cl : List (List Nat)) (k : Nat) : List Nat := cl.getD k []

/-- The head of a region, operation by operation. -/
inductive Head (P : Program) (K : List Nat) (G : Hp) (w0 : World) (ops : Array Oper) (cl : List (List Nat)) (F0 : Fr) (H0 : Hp) (fin : List HE → Prop) : Nat → List HE → Prop
  | done {k : Nat} {es : List HE} (h : fin es) : Head P K G w0 ops cl F0 H0 fin k es
  | det {k : Nat} {es : List HE} {d : Nat} {op : Op} {ty : TypeId} {pos : String} {after : Array Edge} {v : Value} (ho : ops[k]? = some ⟨some d, op, ty, pos, after, none⟩)
      (h : ∀ β, allOk β (pickE es (clAt cl k)) → Det P K G w0 ⟨some d, op, ty, pos, after, none⟩ (avF F0 es (clAt cl k) β) (avH H0 es (clAt cl k) β) v)
      (rest : Head P K G w0 ops cl F0 H0 fin (k + 1) (es ++ [.det d v])) : Head P K G w0 ops cl F0 H0 fin k es
  | dep {k : Nat} {es : List HE} {d : Nat} {op : Op} {ty : TypeId} {pos : String} {after : Array Edge} (ds : List Nat) (g : List Prm → Value) (ho : ops[k]? = some ⟨some d, op, ty, pos, after, none⟩)
      (h : ∀ β, allOk β (pickE es (clAt cl k)) → Det P K G w0 ⟨some d, op, ty, pos, after, none⟩ (avF F0 es (clAt cl k) β) (avH H0 es (clAt cl k) β) (g (ds.map β)))
      (rest : Head P K G w0 ops cl F0 H0 fin (k + 1) (es ++ [.dep d ds g])) : Head P K G w0 ops cl F0 H0 fin k es
  | flt {k : Nat} {es : List HE} {d : Nat} {op : Op} {ty : TypeId} {pos : String} {after : Array Edge} {v : Value} (ho : ops[k]? = some ⟨some d, op, ty, pos, after, none⟩)
      (h : ∀ β, allOk β (pickE es (clAt cl k)) → ∀ a w, Slots (avF F0 es (clAt cl k) β) a → (execOp a.eval ⟨some d, op, ty, pos, after, none⟩).run P w = .ok (.value v) w)
      (rest : Head P K G w0 ops cl F0 H0 fin (k + 1) (es ++ [.flt d v])) : Head P K G w0 ops cl F0 H0 fin k es
  | fresh {k : Nat} {es : List HE} {d : Nat} {op : Op} {ty : TypeId} {pos : String} {after : Array Edge} {mk : Prm → Value} {ob : Prm → Hp} {ok : Prm → Prop} (ho : ops[k]? = some ⟨some d, op, ty, pos, after, none⟩)
      (h : ∀ β, allOk β (pickE es (clAt cl k)) → New P K G w0 ⟨some d, op, ty, pos, after, none⟩ (avF F0 es (clAt cl k) β) (avH H0 es (clAt cl k) β) mk ob ok)
      (rest : Head P K G w0 ops cl F0 H0 fin (k + 1) (es ++ [.fresh d mk ob ok])) : Head P K G w0 ops cl F0 H0 fin k es
  | no {k : Nat} {es : List HE} {d : Nat} {op : Op} {ty : TypeId} {pos : String} {after : Array Edge} {g : Nat} {t : Bool} {s : Nat} (ho : ops[k]? = some ⟨some d, op, ty, pos, after, some (g, t)⟩)
      (hs : (ops[g]?).bind (·.dst) = some s) (h : ∀ β, allOk β (pickE es (clAt cl k)) → look (avF F0 es (clAt cl k) β) s = some (.bool (!t)))
      (rest : Head P K G w0 ops cl F0 H0 fin (k + 1) (es ++ [.det d undef])) : Head P K G w0 ops cl F0 H0 fin k es
  | un {k : Nat} {es : List HE} {d : Nat} {op : Op} {ty : TypeId} {pos : String} {after : Array Edge} {g : Nat} {t : Bool} {s : Nat} (ho : ops[k]? = some ⟨some d, op, ty, pos, after, some (g, t)⟩)
      (hs : (ops[g]?).bind (·.dst) = some s) (h : ∀ β, allOk β (pickE es (clAt cl k)) → look (avF F0 es (clAt cl k) β) s = some undef)
      (rest : Head P K G w0 ops cl F0 H0 fin (k + 1) (es ++ [.det d undef])) : Head P K G w0 ops cl F0 H0 fin k es
  | yes {k : Nat} {es : List HE} {d : Nat} {op : Op} {ty : TypeId} {pos : String} {after : Array Edge} {g : Nat} {t : Bool} {s : Nat} {v : Value} (ho : ops[k]? = some ⟨some d, op, ty, pos, after, some (g, t)⟩)
      (hs : (ops[g]?).bind (·.dst) = some s) (hl : ∀ β, allOk β (pickE es (clAt cl k)) → look (avF F0 es (clAt cl k) β) s = some (.bool t))
      (h : ∀ β, allOk β (pickE es (clAt cl k)) → Det P K G w0 ⟨some d, op, ty, pos, after, some (g, t)⟩ (avF F0 es (clAt cl k) β) (avH H0 es (clAt cl k) β) v)
      (rest : Head P K G w0 ops cl F0 H0 fin (k + 1) (es ++ [.det d v])) : Head P K G w0 ops cl F0 H0 fin k es
  | yesFresh {k : Nat} {es : List HE} {d : Nat} {op : Op} {ty : TypeId} {pos : String} {after : Array Edge} {g : Nat} {t : Bool} {s : Nat} {mk : Prm → Value} {ob : Prm → Hp} {ok : Prm → Prop} (ho : ops[k]? = some ⟨some d, op, ty, pos, after, some (g, t)⟩)
      (hs : (ops[g]?).bind (·.dst) = some s) (hl : ∀ β, allOk β (pickE es (clAt cl k)) → look (avF F0 es (clAt cl k) β) s = some (.bool t))
      (h : ∀ β, allOk β (pickE es (clAt cl k)) → New P K G w0 ⟨some d, op, ty, pos, after, some (g, t)⟩ (avF F0 es (clAt cl k) β) (avH H0 es (clAt cl k) β) mk ob ok)
      (rest : Head P K G w0 ops cl F0 H0 fin (k + 1) (es ++ [.fresh d mk ob ok])) : Head P K G w0 ops cl F0 H0 fin k es

def depsOf (ops : Array Oper) (k : Nat) : List Nat :=
  match ops[k]? with
  | some o => (o.after.toList.filter (Region.binds .any)).map (·.on)
  | none => []

def nodupB : List Nat → Bool
  | [] => true
  | x :: r => !r.contains x && nodupB r

def clOK (ops : Array Oper) (cl : List (List Nat)) : Bool :=
  (List.range ops.size).all fun k => (clAt cl k).all fun j => decide (j < k) && ((depsOf ops k).contains j || (depsOf ops k).any fun i => decide (i < k) && (clAt cl i).contains j)

def canon (m s : Nat) : Array Bool := ((List.range s).map fun i => decide (i < m)).toArray

def floatAt (es : List HE) (i : Nat) : Bool :=
  match es[i]? with
  | some e => e.floats
  | none => false
/-- All of the head but what floats. -/
def headOnly (es : List HE) (s : Nat) : Array Bool := ((List.range s).map fun i => decide (i < es.length) && !floatAt es i).toArray

/-- What an entry's value leans on has come up before it. -/
def depOK (cl : List (List Nat)) (es : List HE) : Bool :=
  (List.range es.length).all fun j => match es[j]? with
    | some (.dep _ ds _) => ds.all fun x => (clAt cl j).any fun i => match es[i]? with
      | some e => Nat.beq e.dst x
      | none => false
    | _ => true

def drawOK (n : Nat) (ops : Array Oper) (m : Nat) (cl : List (List Nat)) (F0 : Fr) (es : List HE) : Bool :=
  decide (es.length = m) && decide (m ≤ ops.size) && clOK ops cl && nodupB (es.map HE.dst) && (es.all fun e => decide (e.dst < n) && (look F0 e.dst).isNone) &&
  ((List.range ops.size).all fun k => decide (m ≤ k) || (depsOf ops k).all fun j => decide (j < k)) &&
  ((List.range ops.size).all fun t => decide (t < m) || (List.range m).all fun i => floatAt es i || (clAt cl t).contains i) &&
  Region.noSelect ops && ((List.range m).all fun i => !floatAt es i || Region.free .any ops (headOnly es ops.size) i) &&
  Region.seqB .any ops (ops.size - m) m (canon m ops.size) && depOK cl es

section
variable {P : Program} {n : Nat} {K : List Nat} {G : Hp} {w0 : World} {ops : Array Oper} {cl : List (List Nat)} {F0 : Fr} {H0 : Hp}

/-- Entry k is sound: wherever what it waits for is there, it may be carried out. -/
def EntOK (P : Program) (K : List Nat) (G : Hp) (w0 : World) (ops : Array Oper) (cl : List (List Nat)) (F0 : Fr) (H0 : Hp) (es : List HE) (k : Nat) : Prop :=
  ∃ e, es[k]? = some e ∧ (∀ β a w (next : Act → World → Prop) (Qx : Exit → Act → World → Prop), allOk β (pickE es (clAt cl k)) → Slots (avF F0 es (clAt cl k) β) a → Blocks (avH H0 es (clAt cl k) β) w → Old K G w0 w →
    (match e with
      | .det d v => ∀ w', Below w.heap.size w w' → next (a.put (some d) v) w'
      | .flt d v => ∀ w', Below w.heap.size w w' → next (a.put (some d) v) w'
      | .fresh d mk ob ok => ∀ p w', ok p → Below w.heap.size w w' → Blocks (ob p) w' → ((ob p).map (·.1)).Nodup → (∀ q ∈ ob p, w.heap.size ≤ q.1) → next (a.put (some d) (mk p)) w'
      | .dep d ds g => ∀ w', Below w.heap.size w w' → next (a.put (some d) (g (ds.map β))) w') → wpOp P ops Qx k next a w) ∧
    (∀ d v, e = .flt d v → ∃ oi, ops[k]? = some oi ∧ oi.dst = some d ∧ ∀ β a, allOk β (pickE es (clAt cl k)) → Slots (avF F0 es (clAt cl k) β) a → Yields P ops oi v a)

theorem pickE_mono {es es' : List HE} : ∀ {pl : List Nat}, (∀ j ∈ pl, es[j]? = es'[j]?) → pickE es pl = pickE es' pl
  | [], _ => rfl
  | j :: r, h => by
    simp only [pickE, h j (by simp)]
    rw [pickE_mono (pl := r) fun i hi => h i (by simp [hi])]

theorem wanted_of {a : Act} {o : Oper} {g s : Nat} {t u : Bool} (hg : o.guard = some (g, t)) (hs : (ops[g]?).bind (·.dst) = some s) (ha : a.tmps[s]? = some (.bool u)) :
    Region.wanted o (yielded ops a.tmps) = (u == t) := by
  simp [Region.wanted, hg, yielded, hs, ha]

theorem look_avF_slots {F : Fr} {a : Act} {s : Nat} {v : Value} (h : Slots F a) (hl : look F s = some v) : a.tmps[s]? = some v := h s v hl

/-- The derivation gives entries that are sound, and its end. -/
theorem Head.out {fin : List HE → Prop} {k : Nat} {es : List HE} (h : Head P K G w0 ops cl F0 H0 fin k es) (hk : k = es.length) (hcl : ∀ i, ∀ j ∈ clAt cl i, j < i)
    (hes : ∀ i, i < es.length → EntOK P K G w0 ops cl F0 H0 es i) :
    ∃ es', fin es' ∧ ∀ i, i < es'.length → EntOK P K G w0 ops cl F0 H0 es' i := by
  have grow : ∀ {es : List HE} {e : HE}, (∀ i, i < es.length → EntOK P K G w0 ops cl F0 H0 es i) → EntOK P K G w0 ops cl F0 H0 (es ++ [e]) es.length →
      ∀ i, i < (es ++ [e]).length → EntOK P K G w0 ops cl F0 H0 (es ++ [e]) i := by
    intro es e h1 h2 i hi
    rcases Nat.lt_or_ge i es.length with h | h
    · obtain ⟨e', he, H⟩ := h1 i h
      refine ⟨e', by rw [List.getElem?_append_left h]; exact he, ?_⟩
      have : pickE (es ++ [e]) (clAt cl i) = pickE es (clAt cl i) := pickE_mono fun j hj => by
        rw [List.getElem?_append_left (Nat.lt_trans (hcl i j hj) h)]
      unfold avF avH at H ⊢
      rw [this]
      exact H
    · have : i = es.length := by simp at hi; omega
      subst this
      exact h2
  have pick : ∀ (es : List HE) (e : HE), pickE (es ++ [e]) (clAt cl es.length) = pickE es (clAt cl es.length) := fun es e => pickE_mono fun j hj => by
    rw [List.getElem?_append_left (hcl _ j hj)]
  induction h with
  | done h => exact ⟨_, h, hes⟩
  | @det k es d op ty pos after v ho h rest ih =>
    subst hk
    refine ih (by simp) (grow hes ⟨.det d v, by simp, ?_, fun _ _ h => by cases h⟩)
    intro β a w next Qx hg hs hb hold hn
    unfold avF at hs
    unfold avH at hb
    rw [pick] at hg hs hb
    unfold wpOp
    simp only [ho, Region.wanted, if_true]
    exact .inl (h β hg a w hs hb hold _ _ hn)
  | @dep k es d op ty pos after ds g ho h rest ih =>
    subst hk
    refine ih (by simp) (grow hes ⟨.dep d ds g, by simp, ?_, fun _ _ h => by cases h⟩)
    intro β a w next Qx hg hs hb hold hn
    unfold avF at hs
    unfold avH at hb
    rw [pick] at hg hs hb
    unfold wpOp
    simp only [ho, Region.wanted, if_true]
    exact .inl (h β hg a w hs hb hold _ _ hn)
  | @flt k es d op ty pos after v ho h rest ih =>
    subst hk
    refine ih (by simp) (grow hes ⟨.flt d v, by simp, ?_, ?_⟩)
    · intro β a w next Qx hg hs hb hold hn
      unfold avF at hs
      rw [pick] at hg hs
      unfold wpOp
      simp only [ho, Region.wanted, if_true]
      refine .inl ?_
      unfold Oper.wp
      rw [h β hg a w hs]
      exact hn w (Below.refl _ _)
    · intro d' v' he
      injection he with e1 e2
      subst e1; subst e2
      refine ⟨_, ho, rfl, fun β a hg hs => .inl ⟨by simp [Region.wanted], fun w => ?_⟩⟩
      unfold avF at hs
      rw [pick] at hg hs
      exact h β hg a w hs
  | @fresh k es d op ty pos after mk ob ok ho h rest ih =>
    subst hk
    refine ih (by simp) (grow hes ⟨.fresh d mk ob ok, by simp, ?_, fun _ _ h => by cases h⟩)
    intro β a w next Qx hg hs hb hold hn
    unfold avF at hs
    unfold avH at hb
    rw [pick] at hg hs hb
    unfold wpOp
    simp only [ho, Region.wanted, if_true]
    exact .inl (h β hg a w hs hb hold _ _ hn)
  | @no k es d op ty pos after g t s ho hs0 h rest ih =>
    subst hk
    refine ih (by simp) (grow hes ⟨.det d undef, by simp, ?_, fun _ _ h => by cases h⟩)
    intro β a w next Qx hg hs hb hold hn
    unfold avF at hs
    unfold avH at hb
    rw [pick] at hg hs hb
    unfold wpOp
    have := wanted_of (ops := ops) (o := ⟨some d, op, ty, pos, after, some (g, t)⟩) rfl hs0 (hs s _ (h β hg))
    simp only [ho, this]
    have e : ((!t) == t) = false := by cases t <;> rfl
    rw [e]
    exact hn w (Below.refl _ _)
  | @un k es d op ty pos after g t s ho hs0 h rest ih =>
    subst hk
    refine ih (by simp) (grow hes ⟨.det d undef, by simp, ?_, fun _ _ h => by cases h⟩)
    intro β a w next Qx hg hs hb hold hn
    unfold avF at hs
    unfold avH at hb
    rw [pick] at hg hs hb
    unfold wpOp
    have hv := hs s _ (h β hg)
    have hy : Region.wanted ⟨some d, op, ty, pos, after, some (g, t)⟩ (yielded ops a.tmps) = false := by
      cases t <;> simp [Region.wanted, yielded, hs0, hv, undef]
    simp only [ho, hy]
    exact hn w (Below.refl _ _)
  | @yes k es d op ty pos after g t s v ho hs0 hl h rest ih =>
    subst hk
    refine ih (by simp) (grow hes ⟨.det d v, by simp, ?_, fun _ _ h => by cases h⟩)
    intro β a w next Qx hg hs hb hold hn
    unfold avF at hs
    unfold avH at hb
    rw [pick] at hg hs hb
    unfold wpOp
    have := wanted_of (ops := ops) (o := ⟨some d, op, ty, pos, after, some (g, t)⟩) rfl hs0 (hs s _ (hl β hg))
    simp only [ho, this, beq_self_eq_true, if_true]
    exact .inl (h β hg a w hs hb hold _ _ hn)
  | @yesFresh k es d op ty pos after g t s mk ob ok ho hs0 hl h rest ih =>
    subst hk
    refine ih (by simp) (grow hes ⟨.fresh d mk ob ok, by simp, ?_, fun _ _ h => by cases h⟩)
    intro β a w next Qx hg hs hb hold hn
    unfold avF at hs
    unfold avH at hb
    rw [pick] at hg hs hb
    unfold wpOp
    have := wanted_of (ops := ops) (o := ⟨some d, op, ty, pos, after, some (g, t)⟩) rfl hs0 (hs s _ (hl β hg))
    simp only [ho, this, beq_self_eq_true, if_true]
    exact .inl (h β hg a w hs hb hold _ _ hn)

theorem nodupB_eq : ∀ {l : List Nat}, nodupB l = true → l.Nodup
  | [], _ => List.nodup_nil
  | x :: r, h => by
    simp only [nodupB, Bool.and_eq_true, Bool.not_eq_true'] at h
    rw [List.nodup_cons]
    refine ⟨fun hm => ?_, nodupB_eq h.2⟩
    have := h.1
    simp [hm] at this

theorem look_allF {β : Nat → Prm} : ∀ {es : List HE} {s : Nat} {v : Value}, look (allF β es) s = some v → ∃ e ∈ es, e.dst = s ∧ e.val β = v
  | [], s, v, h => by cases h
  | .det d u :: r, s, v, h => by
    simp only [allF, look_eq] at h
    by_cases hd : d = s
    · simp [hd] at h; exact ⟨.det d u, by simp, hd, h⟩
    · simp [hd] at h
      obtain ⟨e, he, h1, h2⟩ := look_allF h
      exact ⟨e, by simp [he], h1, h2⟩
  | .flt d u :: r, s, v, h => by
    simp only [allF, look_eq] at h
    by_cases hd : d = s
    · simp [hd] at h; exact ⟨.flt d u, by simp, hd, h⟩
    · simp [hd] at h
      obtain ⟨e, he, h1, h2⟩ := look_allF h
      exact ⟨e, by simp [he], h1, h2⟩
  | .dep d ds g :: r, s, v, h => by
    simp only [allF, look_eq] at h
    by_cases hd : d = s
    · simp [hd] at h; exact ⟨.dep d ds g, by simp, hd, by simpa [HE.val] using h⟩
    · simp [hd] at h
      obtain ⟨e, he, h1, h2⟩ := look_allF h
      exact ⟨e, by simp [he], h1, h2⟩
  | .fresh d mk o ok :: r, s, v, h => by
    simp only [allF, look_eq] at h
    by_cases hd : d = s
    · simp [hd] at h; exact ⟨.fresh d mk o ok, by simp, hd, by simpa [HE.val, hd] using h⟩
    · simp [hd] at h
      obtain ⟨e, he, h1, h2⟩ := look_allF h
      exact ⟨e, by simp [he], h1, h2⟩

theorem look_append {A B : Fr} {s : Nat} {v : Value} (h : look (A ++ B) s = some v) : look A s = some v ∨ look B s = some v := by
  induction A with
  | nil => exact .inr h
  | cons p r ih =>
    obtain ⟨t, u⟩ := p
    simp only [List.cons_append, look_eq] at h ⊢
    by_cases ht : t = s
    · simp [ht] at h ⊢; exact .inl h
    · simp [ht] at h ⊢; exact ih h

theorem mem_pickE {es : List HE} {e : HE} : ∀ {pl : List Nat}, e ∈ pickE es pl → ∃ j ∈ pl, es[j]? = some e
  | [], h => by cases h
  | j :: r, h => by
    unfold pickE at h
    cases hj : es[j]? with
    | none => simp [hj] at h; obtain ⟨i, hi, he⟩ := mem_pickE h; exact ⟨i, by simp [hi], he⟩
    | some e' =>
      simp [hj] at h
      rcases h with rfl | h
      · exact ⟨j, by simp, hj⟩
      · obtain ⟨i, hi, he⟩ := mem_pickE h; exact ⟨i, by simp [hi], he⟩

theorem mem_allH {β : Nat → Prm} {p : Nat × Obj} : ∀ {es : List HE}, p ∈ allH β es → ∃ d mk ob ok, HE.fresh d mk ob ok ∈ es ∧ p ∈ ob (β d)
  | [], h => by cases h
  | .det d v :: r, h => by
    obtain ⟨d', mk, o, ok, h1, h2⟩ := mem_allH (es := r) h
    exact ⟨d', mk, o, ok, by simp [h1], h2⟩
  | .flt d v :: r, h => by
    obtain ⟨d', mk, o, ok, h1, h2⟩ := mem_allH (es := r) h
    exact ⟨d', mk, o, ok, by simp [h1], h2⟩
  | .dep d ds g :: r, h => by
    obtain ⟨d', mk, o, ok, h1, h2⟩ := mem_allH (es := r) h
    exact ⟨d', mk, o, ok, by simp [h1], h2⟩
  | .fresh d mk o ok :: r, h => by
    simp only [allH, List.mem_append] at h
    rcases h with h | h
    · exact ⟨d, mk, o, ok, by simp, h⟩
    · obtain ⟨d', mk', o', ok', h1, h2⟩ := mem_allH h
      exact ⟨d', mk', o', ok', by simp [h1], h2⟩

theorem allOk_of {β : Nat → Prm} : ∀ {es : List HE}, (∀ d mk ob ok, HE.fresh d mk ob ok ∈ es → ok (β d)) → allOk β es
  | [], _ => trivial
  | .det _ _ :: r, h => allOk_of (es := r) fun d mk ob ok hm => h d mk ob ok (by simp [hm])
  | .flt _ _ :: r, h => allOk_of (es := r) fun d mk ob ok hm => h d mk ob ok (by simp [hm])
  | .dep _ _ _ :: r, h => allOk_of (es := r) fun d mk ob ok hm => h d mk ob ok (by simp [hm])
  | .fresh d mk ob ok :: r, h => ⟨h d mk ob ok (by simp), allOk_of fun d' mk' ob' ok' hm => h d' mk' ob' ok' (by simp [hm])⟩

/-- Where we stand in a region's head: what has been carried out, and what that has left. -/
structure HInv (n : Nat) (K : List Nat) (G : Hp) (w0 : World) (ops : Array Oper) (m : Nat) (F0 : Fr) (H0 : Hp) (es : List HE) (listed : Array Bool) (β : Nat → Prm) (a : Act) (w : World) : Prop where
  lsize : listed.size = ops.size
  closed : ∀ j oj, ops[j]? = some oj → listed.getD j false = true → ∀ e ∈ oj.after, Region.binds .any e = true → listed.getD e.on false = true
  tail : ∀ t, m ≤ t → listed.getD t false = false
  size : a.tmps.size = n
  defers : a.defers = []
  slots : Slots F0 a
  vals : ∀ j e, es[j]? = some e → listed.getD j false = true → a.tmps[e.dst]? = some (e.val β)
  blocks : Blocks H0 w
  old : Old K G w0 w
  news : ∀ (j : Nat) d mk ob ok, es[j]? = some (HE.fresh d mk ob ok) → listed.getD j false = true →
    Blocks (ob (β d)) w ∧ ((ob (β d)).map (·.1)).Nodup ∧ ok (β d) ∧ ∀ q ∈ ob (β d), w0.heap.size ≤ q.1 ∧ ∀ p ∈ H0, p.1 ≠ q.1
  inj : ∀ (i j : Nat) d mk ob ok d' mk' ob' ok', es[i]? = some (HE.fresh d mk ob ok) → es[j]? = some (HE.fresh d' mk' ob' ok') → listed.getD i false = true → listed.getD j false = true → i ≠ j →
    ∀ p ∈ ob (β d), ∀ q ∈ ob' (β d'), p.1 ≠ q.1

theorem getD_set {listed : Array Bool} {i j : Nat} (hi : i < listed.size) : (listed.setIfInBounds i true).getD j false = (decide (i = j) || listed.getD j false) := by
  by_cases h : i = j
  · subst h; simp [hi]
  · rw [getD_set_ne false h]; simp [h]

theorem nodup_get {es : List HE} (hn : (es.map HE.dst).Nodup) {i j : Nat} {e e' : HE} (hi : es[i]? = some e) (hj : es[j]? = some e') (h : e.dst = e'.dst) : i = j := by
  have h1 : (es.map HE.dst)[i]? = some e.dst := by simp [hi]
  have h2 : (es.map HE.dst)[j]? = some e.dst := by simp [hj, h]
  have hil : i < (es.map HE.dst).length := (List.getElem?_eq_some_iff.1 h1).1
  have hjl : j < (es.map HE.dst).length := (List.getElem?_eq_some_iff.1 h2).1
  rw [List.getElem?_eq_getElem hil] at h1
  rw [List.getElem?_eq_getElem hjl] at h2
  exact (List.getElem_inj hn).1 ((Option.some.inj h1).trans (Option.some.inj h2).symm)

theorem HInv.closure {m : Nat} {es : List HE} {listed : Array Bool} {β : Nat → Prm} {a : Act} {w : World} (I : HInv n K G w0 ops m F0 H0 es listed β a w) (hc : clOK ops cl = true) :
    ∀ k, k < ops.size → (∀ e ∈ depsOf ops k, listed.getD e false = true) → ∀ j ∈ clAt cl k, listed.getD j false = true := by
  intro k
  induction k using Nat.strongRecOn with
  | _ k ih =>
    intro hk hd j hj
    have h1 := List.all_eq_true.1 (List.all_eq_true.1 hc k (List.mem_range.2 hk)) j hj
    simp only [Bool.and_eq_true, Bool.or_eq_true, decide_eq_true_eq] at h1
    rcases h1.2 with h2 | h2
    · exact hd j (by simpa using h2)
    · obtain ⟨i, hi, hi2⟩ := List.any_eq_true.1 h2
      simp only [Bool.and_eq_true, decide_eq_true_eq] at hi2
      refine ih i hi2.1 (by omega) (fun e he => ?_) j (by simpa using hi2.2)
      have hl := hd i hi
      unfold depsOf at he
      cases ho : ops[i]? with
      | none => simp [ho] at he
      | some o =>
        simp only [ho] at he
        obtain ⟨x, hx, rfl⟩ := List.mem_map.1 he
        rw [List.mem_filter] at hx
        exact I.closed i o ho hl x (by simpa using hx.1) hx.2

/-- One step of the head: entry i is carried out and leaves its value. -/
theorem HInv.step {m : Nat} {es : List HE} {listed : Array Bool} {β : Nat → Prm} {a : Act} {w w' : World} (I : HInv n K G w0 ops m F0 H0 es listed β a w) {i : Nat} {e : HE} {d : Nat} {v : Value}
    (he : es[i]? = some e) (hd : e.dst = d) (hv : e.val β = v) (hne : ∀ d mk ob ok, e ≠ .fresh d mk ob ok) (hnd : (es.map HE.dst).Nodup) (hfree : ∀ e ∈ es, e.dst < n ∧ look F0 e.dst = none) (him : i < m) (hil : i < ops.size)
    (hdeps : ∀ x ∈ depsOf ops i, listed.getD x false = true) (hb : Below w.heap.size w w') : HInv n K G w0 ops m F0 H0 es (listed.setIfInBounds i true) β (a.put (some d) v) w' := by
  subst hd
  have hils : i < listed.size := by rw [I.lsize]; exact hil
  have hlisted : ∀ j, (listed.setIfInBounds i true).getD j false = true → j = i ∨ listed.getD j false = true := fun j hj => by
    rw [getD_set hils] at hj
    simp at hj
    rcases hj with h | h
    · exact .inl h.symm
    · exact .inr (by simpa using h)
  have hdn : e.dst < n := (hfree e (List.mem_of_getElem? he)).1
  have hF0 : look F0 e.dst = none := (hfree e (List.mem_of_getElem? he)).2
  refine ⟨by simp [I.lsize], ?_, fun t ht => by rw [getD_set_ne false (by omega)]; exact I.tail t ht, by simp [Act.put, I.size], by simp [Act.put, I.defers], ?_, ?_, I.blocks.below hb, I.old.below hb, ?_, ?_⟩
  · intro j oj hj hl x hx hbd
    rcases hlisted j hl with rfl | hl
    · refine getD_set_true (hdeps x.on ?_)
      unfold depsOf
      rw [hj]
      exact List.mem_map.2 ⟨x, List.mem_filter.2 ⟨by simpa using hx, hbd⟩, rfl⟩
    · exact getD_set_true (I.closed j oj hj hl x hx hbd)
  · intro t u ht
    have hne : e.dst ≠ t := fun h => by rw [← h, hF0] at ht; cases ht
    simp [Act.put, hne]
    exact I.slots t u ht
  · intro j e' hj hl
    by_cases hji : j = i
    · subst hji
      have : e' = e := Option.some.inj (hj.symm.trans he)
      subst this
      show (a.tmps.setIfInBounds e'.dst v)[e'.dst]? = some (e'.val β)
      rw [Array.getElem?_setIfInBounds_self_of_lt (by rw [I.size]; exact hdn), hv]
    · have h1 := (hlisted j hl).resolve_left hji
      have hne : e'.dst ≠ e.dst := fun h => hji (nodup_get hnd hj he h)
      show (a.tmps.setIfInBounds e.dst v)[e'.dst]? = _
      rw [Array.getElem?_setIfInBounds_ne (fun h => hne h.symm)]
      exact I.vals j e' hj h1
  · intro j d' mk' o' ok' hj hl
    have hji : j ≠ i := by rintro rfl; rw [he] at hj; exact hne _ _ _ _ (Option.some.inj hj)
    have h1 := I.news j d' mk' o' ok' hj ((hlisted j hl).resolve_left hji)
    exact ⟨h1.1.below hb, h1.2⟩
  · intro i' j' d1 mk1 o1 ok1 d2 mk2 o2 ok2 h1 h2 l1 l2 hij
    have hi' : i' ≠ i := by rintro rfl; rw [he] at h1; exact hne _ _ _ _ (Option.some.inj h1)
    have hj' : j' ≠ i := by rintro rfl; rw [he] at h2; exact hne _ _ _ _ (Option.some.inj h2)
    exact I.inj i' j' d1 mk1 o1 ok1 d2 mk2 o2 ok2 h1 h2 ((hlisted _ l1).resolve_left hi') ((hlisted _ l2).resolve_left hj') hij

theorem HInv.avail {m : Nat} {es : List HE} {listed : Array Bool} {β : Nat → Prm} {a : Act} {w : World} (I : HInv n K G w0 ops m F0 H0 es listed β a w) {pl : List Nat} (hpl : ∀ j ∈ pl, listed.getD j false = true) :
    Slots (avF F0 es pl β) a ∧ Blocks (avH H0 es pl β) w ∧ allOk β (pickE es pl) := by
  refine ⟨?_, ?_, ?_⟩
  · intro t v ht
    rcases look_append ht with h1 | h1
    · obtain ⟨e', he', rfl, rfl⟩ := look_allF h1
      obtain ⟨j, hj, hje⟩ := mem_pickE he'
      exact I.vals j e' hje (hpl j hj)
    · exact I.slots t v h1
  · intro p hp
    rcases List.mem_append.1 hp with h1 | h1
    · obtain ⟨d, mk, o, ok, he', hpo⟩ := mem_allH h1
      obtain ⟨j, hj, hje⟩ := mem_pickE he'
      exact (I.news j d mk o ok hje (hpl j hj)).1 p hpo
    · exact I.blocks p h1
  · exact allOk_of fun d mk ob ok hm => by
      obtain ⟨j, hj, hje⟩ := mem_pickE hm
      exact (I.news j d mk ob ok hje (hpl j hj)).2.2.1

theorem least_unlisted {listed : Array Bool} {m : Nat} (h : ∃ i, i < m ∧ listed.getD i false = false) : ∃ k, k < m ∧ listed.getD k false = false ∧ ∀ j, j < k → listed.getD j false = true := by
  have hleast : ∀ (b : Nat), ∀ i, i ≤ b → i < m → listed.getD i false = false → ∃ k, k < m ∧ listed.getD k false = false ∧ ∀ j, j < k → listed.getD j false = true := by
    intro b
    induction b with
    | zero => intro i hi h1 h2; exact ⟨i, h1, h2, fun j hj => by omega⟩
    | succ b ihb =>
      intro i hi h1 h2
      by_cases hall : ∀ j, j < i → listed.getD j false = true
      · exact ⟨i, h1, h2, hall⟩
      · have : ∃ j, j < i ∧ listed.getD j false = false := by
          refine Classical.byContradiction fun hno => hall fun j hj => ?_
          cases hb : listed.getD j false with
          | true => rfl
          | false => exact absurd ⟨j, hj, hb⟩ hno
        obtain ⟨j, hj, hju⟩ := this
        exact ihb j (by omega) (by omega) hju
  obtain ⟨i, h1, h2⟩ := h
  exact hleast i i (Nat.le_refl _) h1 h2

theorem count_set {listed : Array Bool} {m i fuel : Nat} (him : i < m) (hil : i < listed.size) (hun : listed.getD i false = false) (hf : ((List.range m).filter fun j => !listed.getD j false).length = fuel + 1) :
    ((List.range m).filter fun j => !(listed.setIfInBounds i true).getD j false).length = fuel := by
  have e1 : ((List.range m).filter fun j => !(listed.setIfInBounds i true).getD j false) = ((List.range m).filter fun j => !listed.getD j false).filter (fun j => j != i) := by
    rw [List.filter_filter]
    apply List.filter_congr
    intro j _
    rw [getD_set hil]
    by_cases hij : i = j
    · subst hij; simp
    · have hji : (j != i) = true := by rw [bne_iff_ne]; exact fun h => hij h.symm
      simp [hij, hji]
  rw [e1]
  have hmem : i ∈ ((List.range m).filter fun j => !listed.getD j false) := List.mem_filter.2 ⟨List.mem_range.2 him, by simp [hun]⟩
  have hndr : ((List.range m).filter fun j => !listed.getD j false).Nodup := List.nodup_range.filter _
  have := hndr.erase_eq_filter i
  rw [← this, List.length_erase_of_mem hmem, hf]
  rfl

theorem canon_of {listed : Array Bool} {m s : Nat} (hs : listed.size = s) (hall : ∀ i, i < m → listed.getD i false = true) (htail : ∀ i, m ≤ i → listed.getD i false = false) : listed = canon m s := by
  apply Array.ext
  · simp [canon, hs]
  · intro i h1 h2
    simp only [canon, List.getElem_toArray, List.getElem_map, List.getElem_range]
    have e : listed[i] = listed.getD i false := by simp [h1]
    rw [e]
    by_cases him : i < m
    · simp [hall i him, him]
    · simp [htail i (by omega), him]

theorem W.draw {id : Nat} {l : List Oper} {Q : Exit → Fr → Hp → Prop} (hm : P.follows .mixedOrders = true) (m : Nat) (cl : List (List Nat)) (hlt : ∀ i, ∀ j ∈ clAt cl i, j < i)
    (h : Head P K G w0 l.toArray cl F0 H0 (fun es => drawOK n l.toArray m cl F0 es = true ∧ ∀ β, allOk β es → OpsW P n K G w0 l.toArray (l.drop m) (Q .normal) (allF β es ++ F0) (allH β es ++ H0)) 0 []) :
    W P n K G w0 (.region id l.toArray true) Q F0 H0 := by
  intro a w r
  obtain ⟨es, ⟨hok, htail⟩, hes⟩ := h.out rfl hlt (fun i hi => by simp at hi)
  simp only [drawOK, Bool.and_eq_true, decide_eq_true_eq] at hok
  obtain ⟨⟨⟨⟨⟨⟨⟨⟨⟨⟨hlen, hms⟩, hcl⟩, hnd⟩, hdst⟩, hdeps⟩, hsink⟩, hsel⟩, hfl⟩, hseq⟩, hdp⟩ := hok
  have hnd' := nodupB_eq hnd
  have hfree : ∀ e ∈ es, e.dst < n ∧ look F0 e.dst = none := fun e he => by
    have := List.all_eq_true.1 hdst e he
    simp at this; exact this
  refine wp_mono (Q := fun e a' w' => e = Exit.normal ∧ ∃ F' H', Q .normal F' H' ∧ Rep n K G w0 F' H' a' w') (wp_region_any hm ?_) (fun e a' w' ⟨he, F', H', q, r'⟩ => by subst he; exact ⟨F', H', q, r'⟩)
  have hdepsOf : ∀ k, k < m → ∀ j ∈ depsOf l.toArray k, j < k := fun k hk j hj => by
    have h1 := List.all_eq_true.1 hdeps k (List.mem_range.2 (by omega))
    simp only [Bool.or_eq_true, decide_eq_true_eq] at h1
    simpa using List.all_eq_true.1 (h1.resolve_left (by omega)) j hj
  -- the head is done but for what floats
  have fin : ∀ (fuel : Nat) (listed : Array Bool) (β : Nat → Prm) (a : Act) (w : World), HInv n K G w0 l.toArray m F0 H0 es listed β a w →
      (∀ i, i < m → floatAt es i = false → listed.getD i false = true) → ((List.range m).filter fun i => !listed.getD i false).length = fuel →
      wpAny P .any l.toArray (fun e a' w' => e = Exit.normal ∧ ∃ F' H', Q .normal F' H' ∧ Rep n K G w0 F' H' a' w') (fuel + (l.toArray.size - m)) listed a w := by
    intro fuel
    induction fuel with
    | zero =>
      intro listed β a w I _ hf
      have hall : ∀ i, i < m → listed.getD i false = true := fun i hi => by
        have h0 := List.eq_nil_of_length_eq_zero hf
        have := List.filter_eq_nil_iff.1 h0 i (List.mem_range.2 hi)
        simpa using this
      have hcan : listed = canon m l.toArray.size := canon_of I.lsize hall I.tail
      have hR : Rep n K G w0 (allF β es ++ F0) (allH β es ++ H0) a w := by
        refine ⟨I.size, I.defers, ?_, ?_, ?_, ?_, I.old⟩
        · intro t v ht
          rcases look_append ht with h1 | h1
          · obtain ⟨e, he, rfl, rfl⟩ := look_allF h1
            obtain ⟨j, hj, hje⟩ := List.getElem_of_mem he
            exact I.vals j e (by rw [List.getElem?_eq_getElem hj, hje]) (hall j (by omega))
          · exact I.slots t v h1
        · intro p hp
          rcases List.mem_append.1 hp with h1 | h1
          · obtain ⟨d, mk, o, ok, he, hpo⟩ := mem_allH h1
            obtain ⟨j, hj, hje⟩ := List.getElem_of_mem he
            exact (I.news j d mk o ok (by rw [List.getElem?_eq_getElem hj, hje]) (hall j (by omega))).1 p hpo
          · exact I.blocks p h1
        · rw [List.map_append, List.nodup_append]
          refine ⟨?_, r.nodup, ?_⟩
          · -- the new blocks are apart
            have key : ∀ (es' : List HE), (∀ e ∈ es', e ∈ es) → (es'.map HE.dst).Nodup → ((allH β es').map (·.1)).Nodup := by
              intro es' hsub hn'
              induction es' with
              | nil => simp [allH]
              | cons e r ih =>
                have ih' := ih (fun e he => hsub e (by simp [he])) (by simp at hn'; exact hn'.2)
                cases e with
                | det d v => exact ih'
                | flt d v => exact ih'
                | dep d ds g => exact ih'
                | fresh d mk o ok =>
                  obtain ⟨i, hi, hie⟩ := List.getElem_of_mem (hsub (.fresh d mk o ok) (by simp))
                  have hgi : es[i]? = some (.fresh d mk o ok) := by rw [List.getElem?_eq_getElem hi, hie]
                  simp only [allH, List.map_append, List.nodup_append]
                  refine ⟨(I.news i d mk o ok hgi (hall i (by omega))).2.1, ih', fun x hx y hy hxy => ?_⟩
                  obtain ⟨p, hp, rfl⟩ := List.mem_map.1 hx
                  obtain ⟨q, hq, rfl⟩ := List.mem_map.1 hy
                  obtain ⟨d', mk', o', ok', he', hqo⟩ := mem_allH hq
                  obtain ⟨j, hj, hje⟩ := List.getElem_of_mem (hsub (.fresh d' mk' o' ok') (by simp [he']))
                  have hne : i ≠ j := by
                    rintro rfl
                    have : HE.fresh d mk o ok = HE.fresh d' mk' o' ok' := hie.symm.trans hje
                    have hd : d = d' := by injection this
                    simp only [List.map_cons, List.nodup_cons] at hn'
                    exact hn'.1 (List.mem_map.2 ⟨_, he', by simp [HE.dst, hd]⟩)
                  exact I.inj i j d mk o ok d' mk' o' ok' hgi (by rw [List.getElem?_eq_getElem hj, hje]) (hall i (by omega)) (hall j (by omega)) hne p hp q hqo hxy
            exact key es (fun _ he => he) hnd'
          · intro x hx y hy hxy
            obtain ⟨p, hp, rfl⟩ := List.mem_map.1 hx
            obtain ⟨q, hq, rfl⟩ := List.mem_map.1 hy
            obtain ⟨d, mk, o, ok, he, hpo⟩ := mem_allH hp
            obtain ⟨j, hj, hje⟩ := List.getElem_of_mem he
            exact ((I.news j d mk o ok (by rw [List.getElem?_eq_getElem hj, hje]) (hall j (by omega))).2.2.2 p hpo).2 q hq hxy.symm
        · intro p hp
          rcases List.mem_append.1 hp with h1 | h1
          · obtain ⟨d, mk, o, ok, he, hpo⟩ := mem_allH h1
            obtain ⟨j, hj, hje⟩ := List.getElem_of_mem he
            exact .inr ((I.news j d mk o ok (by rw [List.getElem?_eq_getElem hj, hje]) (hall j (by omega))).2.2.2 p hpo).1
          · exact r.mine p h1
      have hOk : allOk β es := allOk_of fun d mk ob ok hm => by
        obtain ⟨j, hj, hje⟩ := List.getElem_of_mem hm
        exact (I.news j d mk ob ok (by rw [List.getElem?_eq_getElem hj, hje]) (hall j (by omega))).2.2.1
      have hdl : (l.drop m).length = l.toArray.size - m := by simp
      rw [Nat.zero_add, ← hdl]
      refine wpAny_of_seq (l.drop m) m listed a w (fun j => by simp [List.getElem?_drop]) (by rw [hdl, hcan]; exact hseq) ?_
      exact htail β hOk a w _ hR fun F' H' a' w' q r' => ⟨rfl, F', H', q, r'⟩
    | succ fuel ih =>
      intro listed β a w I hnf hf
      have hex : ∃ i, i < m ∧ listed.getD i false = false := by
        have hne : ((List.range m).filter fun i => !listed.getD i false) ≠ [] := fun h => by rw [h] at hf; simp at hf
        obtain ⟨i, hi⟩ := List.exists_mem_of_ne_nil _ hne
        rw [List.mem_filter, List.mem_range] at hi
        exact ⟨i, hi.1, by simpa using hi.2⟩
      obtain ⟨k, hkm, hku, hkall⟩ := least_unlisted hex
      have hks : k < l.toArray.size := by omega
      obtain ⟨e, he, -, hy⟩ := hes k (by omega)
      have hfk : floatAt es k = true := by
        cases hb : floatAt es k with
        | true => rfl
        | false => rw [hnf k hkm hb] at hku; cases hku
      have hef : ∃ d v, e = .flt d v := by
        unfold floatAt at hfk
        rw [he] at hfk
        cases e with
        | flt d v => exact ⟨d, v, rfl⟩
        | _ => simp [HE.floats] at hfk
      obtain ⟨d, v, rfl⟩ := hef
      obtain ⟨oi, hoi, hod, hyl⟩ := hy d v rfl
      have hd : ∀ x ∈ depsOf l.toArray k, listed.getD x false = true := fun x hx => hkall x (hdepsOf k hkm x hx)
      have hav := I.avail (I.closure hcl k hks hd)
      have hready : k ∈ Region.ready .any l.toArray listed := by
        rw [mem_ready]
        refine ⟨getD_in (by rw [I.lsize]; exact hks) hku, oi, hoi, fun x hx hb => hd _ ?_⟩
        unfold depsOf
        rw [hoi]
        exact List.mem_map.2 ⟨x, List.mem_filter.2 ⟨by simpa using hx, hb⟩, rfl⟩
      have hfree' := List.all_eq_true.1 hfl k (List.mem_range.2 hkm)
      simp only [hfk, Bool.not_true, Bool.false_or] at hfree'
      rw [show fuel + 1 + (l.toArray.size - m) = (fuel + (l.toArray.size - m)) + 1 by omega]
      refine wpAny_first hoi (Region.noSelect_spec hsel) (fun c a w h => by cases h.1) _ listed a w (fun j oj hj hne hun hno => ?_) hready (hyl β a hav.2.2 hav.1) ?_
      · refine Region.free_spec hoi hfree' j oj hj hne ?_ hno
        have hjs : j < l.toArray.size := (Array.getElem?_eq_some_iff.1 hj).1
        refine getD_in (by simp [headOnly]; simpa using hjs) ?_
        have e1 : (headOnly es l.toArray.size).getD j false = (decide (j < es.length) && !floatAt es j) := by
          have hjl : j < l.length := by simpa using hjs
          simp [headOnly, List.getElem?_range hjl]
        rw [e1]
        by_cases hjm : j < m
        · cases hb : floatAt es j with
          | true => simp
          | false => exact absurd ((hnf j hjm hb).symm.trans (getD_both hun)) (by simp)
        · simp [hlen, hjm]
      · rw [hod]
        refine ih _ β _ w (I.step he rfl rfl (fun _ _ _ _ h => by cases h) hnd' hfree hkm hks hd (Below.refl _ _)) (fun i hi hb => getD_set_true (hnf i hi hb)) (count_set hkm (by rw [I.lsize]; exact hks) hku hf)
  -- the head, in whatever order
  have main : ∀ (fuel : Nat) (listed : Array Bool) (β : Nat → Prm) (a : Act) (w : World), HInv n K G w0 l.toArray m F0 H0 es listed β a w →
      ((List.range m).filter fun i => !listed.getD i false).length = fuel →
      wpAny P .any l.toArray (fun e a' w' => e = Exit.normal ∧ ∃ F' H', Q .normal F' H' ∧ Rep n K G w0 F' H' a' w') (fuel + (l.toArray.size - m)) listed a w := by
    intro fuel
    induction fuel with
    | zero =>
      intro listed β a w I hf
      refine fin 0 listed β a w I (fun i hi _ => ?_) hf
      have h0 := List.eq_nil_of_length_eq_zero hf
      have := List.filter_eq_nil_iff.1 h0 i (List.mem_range.2 hi)
      simpa using this
    | succ fuel ih =>
      intro listed β a w I hf
      by_cases hnf : ∀ i, i < m → floatAt es i = false → listed.getD i false = true
      · exact fin _ listed β a w I hnf hf
      -- what may come up stands in the head
      have hin : ∀ i ∈ Region.ready .any l.toArray listed, i < m ∧ listed.getD i false = false ∧ i < l.toArray.size ∧ ∀ e ∈ depsOf l.toArray i, listed.getD e false = true := by
        intro i hi
        obtain ⟨hun, o, ho, hall⟩ := mem_ready.1 hi
        have hil : i < l.toArray.size := (Array.getElem?_eq_some_iff.1 ho).1
        have hd : ∀ e ∈ depsOf l.toArray i, listed.getD e false = true := fun e he => by
          unfold depsOf at he
          simp only [ho] at he
          obtain ⟨x, hx, rfl⟩ := List.mem_map.1 he
          rw [List.mem_filter] at hx
          exact hall x (by simpa using hx.1) hx.2
        refine ⟨?_, getD_both hun, hil, hd⟩
        rcases Nat.lt_or_ge i m with h | h
        · exact h
        · -- a tail operation waits for all of the head that does not float
          have h1 := List.all_eq_true.1 hsink i (List.mem_range.2 hil)
          simp only [Bool.or_eq_true, decide_eq_true_eq] at h1
          have h2 := h1.resolve_left (by omega)
          have hcl' := I.closure hcl i hil hd
          refine absurd (fun j hj hb => ?_) hnf
          have h3 := List.all_eq_true.1 h2 j (List.mem_range.2 hj)
          simp only [hb, Bool.false_or] at h3
          exact hcl' j (by simpa using h3)
      rw [show fuel + 1 + (l.toArray.size - m) = (fuel + (l.toArray.size - m)) + 1 by omega]
      refine ⟨fun h0 => ?_, fun i hi => ?_⟩
      · -- something may come up: the first that has not
        exfalso
        have hex : ∃ i, i < m ∧ listed.getD i false = false := by
          have hne : ((List.range m).filter fun i => !listed.getD i false) ≠ [] := fun h => by rw [h] at hf; simp at hf
          obtain ⟨i, hi⟩ := List.exists_mem_of_ne_nil _ hne
          rw [List.mem_filter, List.mem_range] at hi
          exact ⟨i, hi.1, by simpa using hi.2⟩
        obtain ⟨k, hkm, hku, hkall⟩ := least_unlisted hex
        have hks : k < l.toArray.size := by omega
        have : k ∈ Region.ready .any l.toArray listed := by
          rw [mem_ready]
          refine ⟨getD_in (by rw [I.lsize]; exact hks) hku, l.toArray[k], by simp, fun e he hb => hkall _ (hdepsOf k hkm _ ?_)⟩
          unfold depsOf
          simp only [show l.toArray[k]? = some l.toArray[k] from by simp]
          exact List.mem_map.2 ⟨e, List.mem_filter.2 ⟨by simpa using he, hb⟩, rfl⟩
        rw [h0] at this
        cases this
      · obtain ⟨him, hun, hil, hd⟩ := hin i hi
        obtain ⟨e, he, H, -⟩ := hes i (by omega)
        obtain ⟨hS, hB, hG⟩ := I.avail (I.closure hcl i hil hd)
        have hils : i < listed.size := by rw [I.lsize]; exact hil
        have hcount := count_set him hils hun hf
        have hlisted : ∀ j, (listed.setIfInBounds i true).getD j false = true → j = i ∨ listed.getD j false = true := fun j hj => by
          rw [getD_set hils] at hj
          simp at hj
          rcases hj with h | h
          · exact .inl h.symm
          · exact .inr (by simpa using h)
        have hdn : e.dst < n := (hfree e (List.mem_of_getElem? he)).1
        have hF0 : look F0 e.dst = none := (hfree e (List.mem_of_getElem? he)).2
        have slots' : ∀ v, Slots F0 (a.put (some e.dst) v) := fun v t u ht => by
          have hne : e.dst ≠ t := fun h => by rw [← h, hF0] at ht; cases ht
          simp [Act.put, hne]
          exact I.slots t u ht
        have closed' : ∀ j oj, l.toArray[j]? = some oj → (listed.setIfInBounds i true).getD j false = true → ∀ x ∈ oj.after, Region.binds .any x = true → (listed.setIfInBounds i true).getD x.on false = true := by
          intro j oj hj hl x hx hb
          rcases hlisted j hl with rfl | hl
          · refine getD_set_true (hd x.on ?_)
            unfold depsOf
            rw [hj]
            exact List.mem_map.2 ⟨x, List.mem_filter.2 ⟨by simpa using hx, hb⟩, rfl⟩
          · exact getD_set_true (I.closed j oj hj hl x hx hb)
        have tail' : ∀ t, m ≤ t → (listed.setIfInBounds i true).getD t false = false := fun t ht => by
          rw [getD_set_ne false (by omega)]; exact I.tail t ht
        have other : ∀ (j : Nat) (e' : HE), es[j]? = some e' → j ≠ i → e'.dst ≠ e.dst := fun j e' hj hne h => hne (nodup_get hnd' hj he h)
        refine H β a w _ _ hG hS hB I.old ?_
        cases e with
        | det d v => exact fun w' hb => ih _ β _ _ (I.step he rfl rfl (fun _ _ _ _ h => by cases h) hnd' hfree him hil hd hb) hcount
        | flt d v => exact fun w' hb => ih _ β _ _ (I.step he rfl rfl (fun _ _ _ _ h => by cases h) hnd' hfree him hil hd hb) hcount
        | dep d ds g => exact fun w' hb => ih _ β _ _ (I.step he rfl rfl (fun _ _ _ _ h => by cases h) hnd' hfree him hil hd hb) hcount
        | fresh d mk ob ok =>
          intro prm w' hok hb hbl hnod hnew
          let β' : Nat → Prm := fun x => if x = d then prm else β x
          have hβ : β' d = prm := by simp [β']
          have hβo : ∀ x, x ≠ d → β' x = β x := fun x hx => by simp [β', hx]
          have valo : ∀ (j : Nat) (e' : HE), es[j]? = some e' → listed.getD j false = true → e'.dst ≠ d → e'.val β' = e'.val β := fun j e' hj hl h => by
            cases e' with
            | det _ _ => rfl
            | flt _ _ => rfl
            | fresh d' mk' o' ok' => simp only [HE.val]; rw [hβo d' (by simpa [HE.dst] using h)]
            | dep d' ds g =>
              have hjl : j < es.length := (List.getElem?_eq_some_iff.1 hj).1
              have hjo : j < l.toArray.size := by omega
              have h1 := List.all_eq_true.1 hdp j (List.mem_range.2 hjl)
              simp only [hj] at h1
              have h2 : ∀ x ∈ ds, x ≠ d := fun x hx => by
                obtain ⟨i0, hi0, hx0⟩ := List.any_eq_true.1 (List.all_eq_true.1 h1 x hx)
                have hl0 := I.closure hcl j hjo (fun e0 he0 => by
                  unfold depsOf at he0
                  rw [show l.toArray[j]? = some l.toArray[j] from by simp] at he0
                  obtain ⟨y, hy, rfl⟩ := List.mem_map.1 he0
                  rw [List.mem_filter] at hy
                  exact I.closed j l.toArray[j] (by simp) hl y (by simpa using hy.1) hy.2) i0 hi0
                have hii : i0 ≠ i := by rintro rfl; rw [hun] at hl0; cases hl0
                cases h3 : es[i0]? with
                | none => rw [h3] at hx0; cases hx0
                | some e0 =>
                  rw [h3] at hx0
                  have h4 := other i0 e0 h3 hii
                  have h5 : e0.dst = x := Nat.eq_of_beq_eq_true hx0
                  rw [← h5]
                  simpa [HE.dst] using h4
              simp only [HE.val]
              congr 1
              exact List.map_congr_left fun x hx => hβo x (h2 x hx)
          refine ih _ β' _ _ ⟨by simp [I.lsize], closed', tail', by simp [Act.put, I.size], by simp [Act.put, I.defers], slots' _, ?_, I.blocks.below hb, I.old.below hb, ?_, ?_⟩ hcount
          · intro j e' hj hl
            by_cases hji : j = i
            · subst hji
              have : e' = .fresh d mk ob ok := Option.some.inj (hj.symm.trans he)
              subst this
              simp only [HE.val, hβ, HE.dst]
              show (a.tmps.setIfInBounds d _)[d]? = some _
              rw [Array.getElem?_setIfInBounds_self_of_lt (by rw [I.size]; exact hdn)]
            · have h1 := (hlisted j hl).resolve_left hji
              have hne := other j e' hj hji
              rw [valo j e' hj h1 (by simpa [HE.dst] using hne)]
              simp [Act.put, Array.getElem?_setIfInBounds, HE.dst] at hne ⊢
              rw [if_neg (fun h => hne h.symm)]
              exact I.vals j e' hj h1
          · intro j d' mk' o' ok' hj hl
            by_cases hji : j = i
            · subst hji
              have : HE.fresh d' mk' o' ok' = .fresh d mk ob ok := Option.some.inj (hj.symm.trans he)
              injection this with e1 e2 e3 e4
              subst e1; subst e3; subst e4
              rw [hβ]
              refine ⟨hbl, hnod, hok, fun q hq => ⟨Nat.le_trans I.old.size (hnew q hq), fun p hp => ?_⟩⟩
              have := lt_of_some (I.blocks p hp)
              have := hnew q hq
              omega
            · have h1 := I.news j d' mk' o' ok' hj ((hlisted j hl).resolve_left hji)
              have hne := other j _ hj hji
              rw [hβo d' (by simpa [HE.dst] using hne)]
              exact ⟨h1.1.below hb, h1.2⟩
          · intro i' j' d1 mk1 o1 ok1 d2 mk2 o2 ok2 h1 h2 l1 l2 hne
            by_cases hi' : i' = i
            · subst hi'
              have : HE.fresh d1 mk1 o1 ok1 = .fresh d mk ob ok := Option.some.inj (h1.symm.trans he)
              injection this with e1 e2 e3 e4
              subst e1; subst e3
              have hj' : j' ≠ i' := fun h => hne h.symm
              have h3 := I.news j' d2 mk2 o2 ok2 h2 ((hlisted _ l2).resolve_left hj')
              have hne' := other j' _ h2 hj'
              rw [hβ, hβo d2 (by simpa [HE.dst] using hne')]
              intro p hp q hq
              have := lt_of_some (h3.1 q hq)
              have := hnew p hp
              omega
            · have h3 := I.news i' d1 mk1 o1 ok1 h1 ((hlisted _ l1).resolve_left hi')
              have hne1 := other i' _ h1 hi'
              rw [hβo d1 (by simpa [HE.dst] using hne1)]
              by_cases hj' : j' = i
              · subst hj'
                have : HE.fresh d2 mk2 o2 ok2 = .fresh d mk ob ok := Option.some.inj (h2.symm.trans he)
                injection this with e1 e2 e3 e4
                subst e1; subst e3
                rw [hβ]
                intro p hp q hq
                have := lt_of_some (h3.1 p hp)
                have := hnew q hq
                omega
              · have hne2 := other j' _ h2 hj'
                rw [hβo d2 (by simpa [HE.dst] using hne2)]
                exact I.inj i' j' d1 mk1 o1 ok1 d2 mk2 o2 ok2 h1 h2 ((hlisted _ l1).resolve_left hi') ((hlisted _ l2).resolve_left hj') hne
  -- the beginning: nothing has come up
  have hrep : ∀ j, (Array.replicate l.toArray.size false).getD j false = false := fun j => getD_replicate_false _ _
  have hcnt : ((List.range m).filter fun i => !(Array.replicate l.toArray.size false).getD i false).length = m := by
    have : ((List.range m).filter fun i => !(Array.replicate l.toArray.size false).getD i false) = List.range m := List.filter_eq_self.2 fun i _ => by rw [hrep]; rfl
    rw [this, List.length_range]
  have := main m (Array.replicate l.toArray.size false) (fun _ => (0, 0, [])) a { w with drawn := w.drawn + 1 }
    ⟨by simp, fun j oj _ hl => absurd hl (by rw [hrep]; simp), fun t _ => hrep t, r.size, r.defers, r.slots, fun j e _ hl => absurd hl (by rw [hrep]; simp), r.blocks,
      ⟨r.old.os, r.old.tape, r.old.output, r.old.size, r.old.old, r.old.ro⟩, fun j d mk o ok _ hl => absurd hl (by rw [hrep]; simp), fun i j d mk o ok d' mk' o' ok' _ _ hl => absurd hl (by rw [hrep]; simp)⟩ hcnt
  rwa [show m + (l.toArray.size - m) = l.toArray.size by omega] at this

end
end Go.Vm
