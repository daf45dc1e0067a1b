/-
  The head of a region that draws its order, with the last entry in front: no list has to be written out anew at each step.
  Conditions: none; it is a library of lemmas over any program.
-/
import Derived.Test.YtajedkhfliondaaVmNorm
namespace Go.Vm
open Go Go.RowKit

def nth : List HE → Nat → Option HE
  | [], _ => none
  | e :: _, 0 => some e
  | _ :: r, n + 1 => nth r n
theorem nth_eq : ∀ (l : List HE) (n : Nat), nth l n = l[n]?
  | [], n => by simp [nth]
  | e :: _, 0 => by simp [nth]
  | _ :: r, n + 1 => by simp [nth, nth_eq r n]
/-- Of the entries, the last in front, those at some places; k is their number. -/
def pickR (es : List HE) (k : Nat) : List Nat → List HE
  | [] => []
  | j :: r => match nth es (k - (j + 1)) with
    | some e => e :: pickR es k r
    | none => pickR es k r
theorem pickR_eq {es : List HE} {k : Nat} (hk : es.length = k) : ∀ {pl : List Nat}, (∀ j ∈ pl, j < k) → pickR es k pl = pickE es.reverse pl
  | [], _ => rfl
  | j :: r, h => by
    have hj := h j List.mem_cons_self
    unfold pickR pickE
    rw [nth_eq, pickR_eq hk fun i hi => h i (List.mem_cons_of_mem _ hi), List.getElem?_reverse (by omega), show es.length - 1 - j = k - (j + 1) by omega]
    cases es[k - (j + 1)]? <;> rfl
def avFR (F0 : Fr) (es : List HE) (k : Nat) (pl : List Nat) (β : Nat → Prm) : Fr := allF β (pickR es k pl) ++ F0
def avHR (H0 : Hp) (es : List HE) (k : Nat) (pl : List Nat) (β : Nat → Prm) : Hp := allH β (pickR es k pl) ++ H0

section
variable {P : Program} {K : List Nat} {G : Hp} {w0 : World} {ops : Array Oper} {cl : List (List Nat)} {F0 : Fr} {H0 : Hp} {fin : List HE → Prop}
/-- The head, the last entry in front. -/
structure HeadR (P : Program) (K : List Nat) (G : Hp) (w0 : World) (ops : Array Oper) (cl : List (List Nat)) (F0 : Fr) (H0 : Hp) (fin : List HE → Prop) (k : Nat) (es : List HE) : Prop where
  go : es.length = k → (∀ i, ∀ j ∈ clAt cl i, j < i) → Head P K G w0 ops cl F0 H0 fin k es.reverse
theorem HeadR.start (hl : ∀ i, ∀ j ∈ clAt cl i, j < i) (h : HeadR P K G w0 ops cl F0 H0 fin 0 []) : Head P K G w0 ops cl F0 H0 fin 0 [] := h.go rfl hl
theorem HeadR.done {k : Nat} {es : List HE} (h : fin es.reverse) : HeadR P K G w0 ops cl F0 H0 fin k es := ⟨fun _ _ => .done h⟩
variable {k : Nat} {es : List HE} {d : Nat} {op : Op} {ty : TypeId} {pos : String} {after : Array Edge} {v : Value}
theorem rev_cons (e : HE) (es : List HE) : (e :: es).reverse = es.reverse ++ [e] := List.reverse_cons
theorem HeadR.det (ho : ops[k]? = some ⟨some d, op, ty, pos, after, none⟩)
    (h : ∀ β, allOk β (pickR es k (clAt cl k)) → Det P K G w0 ⟨some d, op, ty, pos, after, none⟩ (avFR F0 es k (clAt cl k) β) (avHR H0 es k (clAt cl k) β) v)
    (rest : HeadR P K G w0 ops cl F0 H0 fin (k + 1) (.det d v :: es)) : HeadR P K G w0 ops cl F0 H0 fin k es :=
  ⟨fun hk hl => .det ho (fun β => by
      have := h β
      unfold avFR avHR at this
      rw [pickR_eq hk (hl k)] at this
      exact this) (by rw [← rev_cons]; exact rest.go (by simp [hk]) hl)⟩
theorem HeadR.dep (ds : List Nat) (g : List Prm → Value) (ho : ops[k]? = some ⟨some d, op, ty, pos, after, none⟩)
    (h : ∀ β, allOk β (pickR es k (clAt cl k)) → Det P K G w0 ⟨some d, op, ty, pos, after, none⟩ (avFR F0 es k (clAt cl k) β) (avHR H0 es k (clAt cl k) β) (g (ds.map β)))
    (rest : HeadR P K G w0 ops cl F0 H0 fin (k + 1) (.dep d ds g :: es)) : HeadR P K G w0 ops cl F0 H0 fin k es :=
  ⟨fun hk hl => .dep ds g ho (fun β => by
      have := h β
      unfold avFR avHR at this
      rw [pickR_eq hk (hl k)] at this
      exact this) (by rw [← rev_cons]; exact rest.go (by simp [hk]) hl)⟩
theorem HeadR.flt (ho : ops[k]? = some ⟨some d, op, ty, pos, after, none⟩)
    (h : ∀ β, allOk β (pickR es k (clAt cl k)) → ∀ a w, Slots (avFR F0 es k (clAt cl k) β) a → (execOp a.eval ⟨some d, op, ty, pos, after, none⟩).run P w = .ok (.value v) w)
    (rest : HeadR P K G w0 ops cl F0 H0 fin (k + 1) (.flt d v :: es)) : HeadR P K G w0 ops cl F0 H0 fin k es :=
  ⟨fun hk hl => .flt ho (fun β => by
      have := h β
      unfold avFR at this
      rw [pickR_eq hk (hl k)] at this
      exact this) (by rw [← rev_cons]; exact rest.go (by simp [hk]) hl)⟩
theorem HeadR.fresh {mk : Prm → Value} {ob : Prm → Hp} {ok : Prm → Prop} (ho : ops[k]? = some ⟨some d, op, ty, pos, after, none⟩)
    (h : ∀ β, allOk β (pickR es k (clAt cl k)) → New P K G w0 ⟨some d, op, ty, pos, after, none⟩ (avFR F0 es k (clAt cl k) β) (avHR H0 es k (clAt cl k) β) mk ob ok)
    (rest : HeadR P K G w0 ops cl F0 H0 fin (k + 1) (.fresh d mk ob ok :: es)) : HeadR P K G w0 ops cl F0 H0 fin k es :=
  ⟨fun hk hl => .fresh ho (fun β => by
      have := h β
      unfold avFR avHR at this
      rw [pickR_eq hk (hl k)] at this
      exact this) (by rw [← rev_cons]; exact rest.go (by simp [hk]) hl)⟩
variable {g : Nat} {t : Bool} {s : Nat}
theorem HeadR.no (ho : ops[k]? = some ⟨some d, op, ty, pos, after, some (g, t)⟩) (hs : (ops[g]?).bind (·.dst) = some s) (h : ∀ β, allOk β (pickR es k (clAt cl k)) → look (avFR F0 es k (clAt cl k) β) s = some (.bool (!t)))
    (rest : HeadR P K G w0 ops cl F0 H0 fin (k + 1) (.det d undef :: es)) : HeadR P K G w0 ops cl F0 H0 fin k es :=
  ⟨fun hk hl => .no ho hs (fun β => by
      have := h β
      unfold avFR at this
      rw [pickR_eq hk (hl k)] at this
      exact this) (by rw [← rev_cons]; exact rest.go (by simp [hk]) hl)⟩
theorem HeadR.un (ho : ops[k]? = some ⟨some d, op, ty, pos, after, some (g, t)⟩) (hs : (ops[g]?).bind (·.dst) = some s) (h : ∀ β, allOk β (pickR es k (clAt cl k)) → look (avFR F0 es k (clAt cl k) β) s = some undef)
    (rest : HeadR P K G w0 ops cl F0 H0 fin (k + 1) (.det d undef :: es)) : HeadR P K G w0 ops cl F0 H0 fin k es :=
  ⟨fun hk hl => .un ho hs (fun β => by
      have := h β
      unfold avFR at this
      rw [pickR_eq hk (hl k)] at this
      exact this) (by rw [← rev_cons]; exact rest.go (by simp [hk]) hl)⟩
theorem HeadR.yes (ho : ops[k]? = some ⟨some d, op, ty, pos, after, some (g, t)⟩) (hs : (ops[g]?).bind (·.dst) = some s) (hv : ∀ β, allOk β (pickR es k (clAt cl k)) → look (avFR F0 es k (clAt cl k) β) s = some (.bool t))
    (h : ∀ β, allOk β (pickR es k (clAt cl k)) → Det P K G w0 ⟨some d, op, ty, pos, after, some (g, t)⟩ (avFR F0 es k (clAt cl k) β) (avHR H0 es k (clAt cl k) β) v)
    (rest : HeadR P K G w0 ops cl F0 H0 fin (k + 1) (.det d v :: es)) : HeadR P K G w0 ops cl F0 H0 fin k es :=
  ⟨fun hk hl => .yes ho hs (fun β => by
      have := hv β
      unfold avFR at this
      rw [pickR_eq hk (hl k)] at this
      exact this) (fun β => by
      have := h β
      unfold avFR avHR at this
      rw [pickR_eq hk (hl k)] at this
      exact this) (by rw [← rev_cons]; exact rest.go (by simp [hk]) hl)⟩
theorem HeadR.yesFresh {mk : Prm → Value} {ob : Prm → Hp} {ok : Prm → Prop} (ho : ops[k]? = some ⟨some d, op, ty, pos, after, some (g, t)⟩) (hs : (ops[g]?).bind (·.dst) = some s) (hv : ∀ β, allOk β (pickR es k (clAt cl k)) → look (avFR F0 es k (clAt cl k) β) s = some (.bool t))
    (h : ∀ β, allOk β (pickR es k (clAt cl k)) → New P K G w0 ⟨some d, op, ty, pos, after, some (g, t)⟩ (avFR F0 es k (clAt cl k) β) (avHR H0 es k (clAt cl k) β) mk ob ok)
    (rest : HeadR P K G w0 ops cl F0 H0 fin (k + 1) (.fresh d mk ob ok :: es)) : HeadR P K G w0 ops cl F0 H0 fin k es :=
  ⟨fun hk hl => .yesFresh ho hs (fun β => by
      have := hv β
      unfold avFR at this
      rw [pickR_eq hk (hl k)] at this
      exact this) (fun β => by
      have := h β
      unfold avFR avHR at this
      rw [pickR_eq hk (hl k)] at this
      exact this) (by rw [← rev_cons]; exact rest.go (by simp [hk]) hl)⟩
end
end Go.Vm
