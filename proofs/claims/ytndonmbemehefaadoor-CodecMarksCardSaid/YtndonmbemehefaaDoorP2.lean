/-
  Part 2 of the joined texts of the curves' laws: Strings, and tests that are parted on at once, in the logic of partial frames and heaps.
  Conditions: those that each theorem states.
-/
import Derived.Test.YtndonmbemehefaaDoorP1
import Derived.Laws.IdiomStrings
import Derived.Laws.Strings
import Derived.Laws.Small
import Derived.WalkSmall
import Derived.ProofKit
import Derived.Laws.CopyRow
import Derived.Lib.LaidTab
import Derived.Deep.DeepHandedRow
import Derived.SizedLaws
import Derived.Test.YtndonmbemehefaaDoorProg
import Derived.Shelf.Bits.Mul64
import Derived.Shelf.Spec.BitsCarry
/- Strings, and tests that are parted on at once, in the logic of partial frames and heaps. -/
namespace Go.Vm
open Go Go.RowKit

section
variable {P : Program} {n : Nat} {K : List Nat} {G : Hp} {w0 : World}
variable {ops : Array Oper} {rest : List Oper} {R : Fr → Hp → Prop} {F : Fr} {H : Hp} {op : Op} {ty : TypeId} {pos : String} {after : Array Edge} {x y : Operand} {xt yt : TypeId}

/-- A test, parted on. -/
theorem OpsW.test {d : Nat} {b : Bool} (hdet : Det P K G w0 ⟨some d, op, ty, pos, after, none⟩ F H (.bool b)) (hd : Nat.blt d n = true)
    (ht : b = true → OpsW P n K G w0 ops rest R ((d, .bool true) :: F) H) (hf : b = false → OpsW P n K G w0 ops rest R ((d, .bool false) :: F) H) :
    OpsW P n K G w0 ops (⟨some d, op, ty, pos, after, none⟩ :: rest) R F H := by
  cases hb : b with
  | true => subst hb; exact OpsW.det hdet hd (ht rfl)
  | false => subst hb; exact OpsW.det hdet hd (hf rfl)

/-- A guard that was itself not wanted. -/
theorem OpsW.guard_un {d : Nat} {j : Nat} {t : Bool} {s : Nat} (hg : (ops[j]?).bind (·.dst) = some s) (hv : look F s = some undef) (hd : Nat.blt d n = true) (h : OpsW P n K G w0 ops rest R ((d, undef) :: F) H) :
    OpsW P n K G w0 ops (⟨some d, op, ty, pos, after, some (j, t)⟩ :: rest) R F H :=
  fun a w Qx r hq => by
    have hy : Region.wanted ⟨some d, op, ty, pos, after, some (j, t)⟩ (yielded ops a.tmps) = false := by
      have := r.slots s _ hv
      cases t <;> simp [Region.wanted, yielded, hg, this, undef]
    unfold wpList
    rw [hy]
    exact h _ _ _ (r.put (of_decide_eq_true (by simpa using hd))) hq

variable {d : Option Tmp} {g : Option (Nat × Bool)} {s t : ByteArray}
theorem str_eq {s t : ByteArray} : (s.toList == t.toList) = decide (s = t) := by
  rw [ByteArray.toList_eq, ByteArray.toList_eq, Bool.eq_iff_iff]
  simp only [beq_iff_eq, decide_eq_true_eq]
  constructor
  · intro h
    cases s; cases t
    simp only [ByteArray.mk.injEq]
    exact Array.toList_inj.1 h
  · intro h; rw [h]
theorem det_streql (hx : ev F x = some (.string s)) (hy : ev F y = some (.string t)) : Det P K G w0 ⟨d, .binOp .eql xt x y yt, ty, pos, after, g⟩ F H (.bool (decide (s = t))) :=
  det_bin hx hy guard_string fun _ => by simp only [binOp, Op.stringOp, str_eq]; rfl
theorem det_strneq (hx : ev F x = some (.string s)) (hy : ev F y = some (.string t)) : Det P K G w0 ⟨d, .binOp .neq xt x y yt, ty, pos, after, g⟩ F H (.bool (!decide (s = t))) :=
  det_bin hx hy guard_string fun _ => by simp only [binOp, Op.stringOp, str_eq]; rfl
theorem det_eqlb {a b : Bool} (hu : P.underlying xt = some .bool) (hx : ev F x = some (.bool a)) (hy : ev F y = some (.bool b)) : Det P K G w0 ⟨d, .binOp .eql xt x y yt, ty, pos, after, g⟩ F H (.bool (a == b)) :=
  det_bin hx hy guard_bool fun w => run_eql_bool w xt a b hu
theorem det_neqb {a b : Bool} (hu : P.underlying xt = some .bool) (hx : ev F x = some (.bool a)) (hy : ev F y = some (.bool b)) : Det P K G w0 ⟨d, .binOp .neq xt x y yt, ty, pos, after, g⟩ F H (.bool (a != b)) :=
  det_bin hx hy guard_bool fun w => by simp [binOp, run_equal_bool w xt a b hu, bne]
theorem det_strindex {xt : TypeId} {k : IntKind} {i : Int} (hu : P.underlying xt = some .string) (hx : ev F x = some (.string s)) (hy : ev F y = some (.int k i)) {v : UInt8} (hv : 0 ≤ i ∧ s.data[i.toNat]? = some v) :
    Det P K G w0 ⟨d, .index xt x y, ty, pos, after, g⟩ F H (.int .u8 v.toNat) :=
  det_run fun a w hs _ _ => by
    obtain ⟨h, hv⟩ := hv
    have hlt : i.toNat < s.data.size := (Array.getElem?_eq_some_iff.1 hv).1
    have hlt' : i < s.size := by have : i.toNat < s.size := hlt; omega
    have hg : s[i.toNat]'(by omega) = v := (Array.getElem?_eq_some_iff.1 hv).2
    simp [execOp, hs.ev hx, hs.ev hy, run_index_string w xt s k i hu, h, hlt', hg]

/-- A sum of natural numbers that is far from a wrap. -/
theorem det_addN {a b : Nat} (hx : ev F x = some (.int .i64 a)) (hy : ev F y = some (.int .i64 b)) (h : a + b ≤ 9223372036854775807) : Det P K G w0 ⟨d, .binOp .add xt x y yt, ty, pos, after, g⟩ F H (.int .i64 ((a + b : Nat) : Int)) := by
  have := det_add (P := P) (K := K) (G := G) (w0 := w0) (d := d) (ty := ty) (pos := pos) (after := after) (g := g) (F := F) (H := H) (xt := xt) (yt := yt) hx hy
  rwa [show IntKind.i64.wrap ((a : Int) + b) = ((a + b : Nat) : Int) from by simp [IntKind.wrap, IntKind.signed, IntKind.bits]; omega] at this

def byteCells (s : ByteArray) : List Value := s.data.toList.map fun b => Value.int .u8 b.toNat
theorem byteCells_get {s : ByteArray} {i : Nat} {v : UInt8} {r : List Value} (h : s.data[i]? = some v) : (byteCells s ++ r)[i]? = some (.int .u8 v.toNat) := by
  have hlt : i < s.data.size := (Array.getElem?_eq_some_iff.1 h).1
  rw [List.getElem?_append_left (by simp [byteCells]; exact hlt)]
  simp [byteCells, h]
theorem byte_at {s : ByteArray} {i : Nat} (h : i < s.size) : ∃ v, s.data[i]? = some v := ⟨s.data[i]'h, by simp [Array.getElem?_eq_getElem (show i < s.data.size from h)]⟩

/-- '[]byte(s)'. -/
theorem new_bytes {src dst e : TypeId} (hs0 : P.underlying src = some .string) (hd : P.underlying dst = some (.slice e)) (he : P.underlying e = some (.int .u8)) (hx : ev F x = some (.string s)) :
    New P K G w0 ⟨d, .convert src dst x, ty, pos, after, g⟩ F H (fun p => .slice (some ⟨p.1, 0, none⟩) s.size p.2.1)
      (fun p => [(p.1, .cells (byteCells s ++ p.2.2).toArray e ((byteCells s ++ p.2.2).length, (byteCells s ++ p.2.2).length + 1))]) (fun p => s.size ≤ p.2.1 ∧ p.2.2 = List.replicate (p.2.1 - s.size) (.int .u8 0)) :=
  fun a w hs _ _ next Qx hn => by
    have he' : bytesRow s (grownCap w s.size 0 e) = (byteCells s ++ List.replicate (grownCap w s.size 0 e - s.size) (Value.int .u8 0)).toArray := by
      simp only [bytesRow, byteCells]
      apply Array.ext'
      simp
    have hr : (execOp a.eval ⟨d, .convert src dst x, ty, pos, after, g⟩).run P w = .ok (.value (.slice (some ⟨w.heap.size, 0, none⟩) s.size (grownCap w s.size 0 e))) (w.drew.alloc (.cells (bytesRow s (grownCap w s.size 0 e)) e ((bytesRow s (grownCap w s.size 0 e)).size, (bytesRow s (grownCap w s.size 0 e)).size + 1))) := by
      simp [execOp, hs.ev hx, run_bytes_of_string w src dst e s hs0 hd he]
    unfold Oper.wp
    rw [hr, he']
    refine hn (w.heap.size, grownCap w s.size 0 e, List.replicate (grownCap w s.size 0 e - s.size) (Value.int .u8 0)) _ ⟨grownCap_ge _ _ _ _, rfl⟩ (((Below.refl _ _).drew).alloc (Nat.le_refl _) _) ?_ (by simp) (by simp)
    intro p hp
    simp only [List.mem_singleton] at hp
    subst hp
    show (w.heap.push _)[w.heap.size]? = _
    simp
end
end Go.Vm

/- What a law's row asks behind a walk that writes nothing that was there and returns true. -/
namespace Go.Vm
open Go Go.RowKit Go.WideElems Go.ChangeShapes Go.WideShapes

section
variable {H : Type} {enc : TypeId × Value → H} {P : Program}

theorem trodAll_below (hl : laidOutB P = true) {W W' : World} (hb : Below W.heap.size W W') : ∀ {ts : List TypeId} {vs : List Value} {ds : List (DataW H)} {ps : List MemPlace}, ts.all (fun t => P.readableRec t && decide (t < P.types.size)) = true →
    DataW.TrodAll enc P W 0 (fun _ => true) true ts vs ds ps → (∀ p ∈ ps, p.block < W.heap.size) → DataW.TrodAll enc P W' 0 (fun b => decide (b < W.heap.size)) true ts vs ds ps
  | [], [], [], _, _, h, _ => h
  | t :: ts, v :: vs, d :: ds, ps, ht, h, hlt => by
    obtain ⟨p, q, h1, h2, rfl⟩ := h
    simp only [List.all_cons, Bool.and_eq_true, decide_eq_true_eq] at ht
    exact ⟨p, q, Below.trod hl ht.1.1 ht.1.2 h1 hb (fun x hx => hlt x (List.mem_append_left _ hx)), trodAll_below hl hb (by simpa using ht.2) h2 (fun x hx => hlt x (List.mem_append_right _ hx)), rfl⟩
  | [], _ :: _, _, _, _, h, _ => by cases h
  | [], [], _ :: _, _, _, h, _ => by cases h
  | _ :: _, [], _, _, _, h, _ => by cases h
  | _ :: _, _ :: _, [], _, _, h, _ => by cases h

def varOk (P : Program) (n : String) : Bool := match P.globalNamed n with
  | some g => match (P.globals[g]?).map (·.type) with
    | some t => P.readableRec t && decide (t < P.types.size)
    | none => true
  | none => true

theorem trodVars_below (hl : laidOutB P = true) {W W' : World} (hb : Below W.heap.size W W') : ∀ {ns : List String} {gs : List (DataW H)} {ps : List MemPlace}, ns.all (varOk P) = true →
    DataW.TrodVars enc P W (fun _ => true) ns gs ps → (∀ p ∈ ps, p.block < W.heap.size) → DataW.TrodVars enc P W' (fun b => decide (b < W.heap.size)) ns gs ps
  | [], [], _, _, h, _ => h
  | n :: ns, d :: ds, ps, ht, h, hlt => by
    obtain ⟨g, t, cs, fuel, p, q, h1, h2, h3, h4, h5, rfl⟩ := h
    simp only [List.all_cons, Bool.and_eq_true] at ht
    have ht1 := ht.1
    simp only [varOk, h1, h2, Bool.and_eq_true, decide_eq_true_eq] at ht1
    have hg : g < W.heap.size := by
      unfold World.var? at h3
      simp only [h1, Option.bind_some] at h3
      cases hh : W.heap[g]? with
      | none => simp [hh] at h3
      | some o => exact lt_of_some hh
    obtain ⟨fuel', h4'⟩ := Below.trod (v := .agg cs) hl ht1.1 ht1.2 ⟨fuel, h4⟩ hb (fun x hx => hlt x (List.mem_append_left _ (List.mem_append_right _ hx)))
    exact ⟨g, t, cs, fuel', p, q, h1, h2, var?_below hb h1 hg h3, h4', trodVars_below hl hb (by simpa using ht.2) h5 (fun x hx => hlt x (List.mem_append_right _ hx)), rfl⟩
  | [], _ :: _, _, _, h, _ => by cases h
  | _ :: _, [], _, _, h, _ => by cases h

theorem law_post {f : Func} {s : ChangeSpec} {apart fresh handsOn : Bool} {W W' : World} {args : Array Value} {ds gs : List (DataW H)} {before : List MemPlace} {t : TypeId}
    (hl : laidOutB P = true) (ht : f.params.toList.all (fun t => P.readableRec t && decide (t < P.types.size)) = true) (hv : s.vars.all (varOk P) = true)
    (hW : DataW.Whole enc P f.params.toList s.vars apart W args.toList ds gs before) (hb : Below W.heap.size W W') (hr : f.resultTypes = #[t]) (hbool : P.underlying t = some .bool)
    (hS1 : (s.fn H (ds ++ gs)).results = [.lit (.bool true)]) (hS2 : (s.fn H (ds ++ gs)).args = ds) (hS3 : (s.fn H (ds ++ gs)).vars = gs) :
    s.post enc P f apart fresh handsOn false W args (.bool true) W' := by
  have hlt := hW.lt
  have hW' := hW
  obtain ⟨pa, pv, hA, hV, rfl, hz, hn⟩ := hW
  refine ⟨ds, gs, pa ++ pv, [], pa, pv, hW', ?_, ?_, ?_, hb.frame _, fun h => by cases h⟩
  · rw [hS1, hr]
    exact trodAll_mk1 (shut_bool hbool _)
  · rw [hS2]; exact trodAll_below hl hb ht hA (fun x hx => hlt x (List.mem_append_left _ hx))
  · rw [hS3]; exact trodVars_below hl hb hv hV (fun x hx => hlt x (List.mem_append_right _ hx))
end
end Go.Vm

/- Frames that are written out anew, in regions that draw their order. -/
namespace Go.Vm
open Go Go.RowKit
section
variable {P : Program} {n : Nat} {K : List Nat} {G : Hp} {w0 : World} {ops : Array Oper} {cl : List (List Nat)} {F F' F0 : Fr} {H H' H0 : Hp}
theorem Head.norm {fin : List HE → Prop} {k k' : Nat} {es es' : List HE} (hk : k = k') (he : es = es') (h : Head P K G w0 ops cl F0 H0 fin k' es') : Head P K G w0 ops cl F0 H0 fin k es := by
  subst hk; subst he; exact h
theorem Det.norm {o : Oper} {v : Value} (hF : F = F') (hH : H = H') (h : Det P K G w0 o F' H' v) : Det P K G w0 o F H v := by
  subst hF; subst hH; exact h
theorem New.norm {o : Oper} {mk : Prm → Value} {ob : Prm → Hp} {ok : Prm → Prop} (hF : F = F') (hH : H = H') (h : New P K G w0 o F' H' mk ob ok) : New P K G w0 o F H mk ob ok := by
  subst hF; subst hH; exact h
theorem look_norm {s : Nat} {v : Option Value} (hF : F = F') (h : look F' s = v) : look F s = v := by
  subst hF; exact h
end
end Go.Vm

/- The head of a region that draws its order, with the last entry in front: no list has to be written out anew at each step. -/
namespace Go.Vm
open Go Go.RowKit

def nth : List HE → Nat → Option HE
  | [], _ => none
  | e :: _, 0 => some e
  | _ :: r, n + 1 => nth r n
theorem nth_eq : ∀ (l : List HE) (n : Nat), nth l n = l[n]?
  | [], n => by simp [nth]
  | e :: _, 0 => by simp [nth]
  | _ :: r, n + 1 => by simp [nth, nth_eq r n]
/-- Of the entries, the last in front, those at some places; k is their number. -/
def pickR (es : List HE) (k : Nat) : List Nat → List HE
  | [] => []
  | j :: r => match nth es (k - (j + 1)) with
    | some e => e :: pickR es k r
    | none => pickR es k r
theorem pickR_eq {es : List HE} {k : Nat} (hk : es.length = k) : ∀ {pl : List Nat}, (∀ j ∈ pl, j < k) → pickR es k pl = pickE es.reverse pl
  | [], _ => rfl
  | j :: r, h => by
    have hj := h j List.mem_cons_self
    unfold pickR pickE
    rw [nth_eq, pickR_eq hk fun i hi => h i (List.mem_cons_of_mem _ hi), List.getElem?_reverse (by omega), show es.length - 1 - j = k - (j + 1) by omega]
    cases es[k - (j + 1)]? <;> rfl
def avFR (F0 : Fr) (es : List HE) (k : Nat) (pl : List Nat) (β : Nat → Prm) : Fr := allF β (pickR es k pl) ++ F0
def avHR (H0 : Hp) (es : List HE) (k : Nat) (pl : List Nat) (β : Nat → Prm) : Hp := allH β (pickR es k pl) ++ H0

section
variable {P : Program} {K : List Nat} {G : Hp} {w0 : World} {ops : Array Oper} {cl : List (List Nat)} {F0 : Fr} {H0 : Hp} {fin : List HE → Prop}
/-- The head, the last entry in front. -/
structure HeadR (P : Program) (K : List Nat) (G : Hp) (w0 : World) (ops : Array Oper) (cl : List (List Nat)) (F0 : Fr) (H0 : Hp) (fin : List HE → Prop) (k : Nat) (es : List HE) : Prop where
  go : es.length = k → (∀ i, ∀ j ∈ clAt cl i, j < i) → Head P K G w0 ops cl F0 H0 fin k es.reverse
theorem HeadR.start (hl : ∀ i, ∀ j ∈ clAt cl i, j < i) (h : HeadR P K G w0 ops cl F0 H0 fin 0 []) : Head P K G w0 ops cl F0 H0 fin 0 [] := h.go rfl hl
theorem HeadR.done {k : Nat} {es : List HE} (h : fin es.reverse) : HeadR P K G w0 ops cl F0 H0 fin k es := ⟨fun _ _ => .done h⟩
variable {k : Nat} {es : List HE} {d : Nat} {op : Op} {ty : TypeId} {pos : String} {after : Array Edge} {v : Value}
theorem rev_cons (e : HE) (es : List HE) : (e :: es).reverse = es.reverse ++ [e] := List.reverse_cons
theorem HeadR.det (ho : ops[k]? = some ⟨some d, op, ty, pos, after, none⟩)
    (h : ∀ β, allOk β (pickR es k (clAt cl k)) → Det P K G w0 ⟨some d, op, ty, pos, after, none⟩ (avFR F0 es k (clAt cl k) β) (avHR H0 es k (clAt cl k) β) v)
    (rest : HeadR P K G w0 ops cl F0 H0 fin (k + 1) (.det d v :: es)) : HeadR P K G w0 ops cl F0 H0 fin k es :=
  ⟨fun hk hl => .det ho (fun β => by
      have := h β
      unfold avFR avHR at this
      rw [pickR_eq hk (hl k)] at this
      exact this) (by rw [← rev_cons]; exact rest.go (by simp [hk]) hl)⟩
theorem HeadR.dep (ds : List Nat) (g : List Prm → Value) (ho : ops[k]? = some ⟨some d, op, ty, pos, after, none⟩)
    (h : ∀ β, allOk β (pickR es k (clAt cl k)) → Det P K G w0 ⟨some d, op, ty, pos, after, none⟩ (avFR F0 es k (clAt cl k) β) (avHR H0 es k (clAt cl k) β) (g (ds.map β)))
    (rest : HeadR P K G w0 ops cl F0 H0 fin (k + 1) (.dep d ds g :: es)) : HeadR P K G w0 ops cl F0 H0 fin k es :=
  ⟨fun hk hl => .dep ds g ho (fun β => by
      have := h β
      unfold avFR avHR at this
      rw [pickR_eq hk (hl k)] at this
      exact this) (by rw [← rev_cons]; exact rest.go (by simp [hk]) hl)⟩
theorem HeadR.flt (ho : ops[k]? = some ⟨some d, op, ty, pos, after, none⟩)
    (h : ∀ β, allOk β (pickR es k (clAt cl k)) → ∀ a w, Slots (avFR F0 es k (clAt cl k) β) a → (execOp a.eval ⟨some d, op, ty, pos, after, none⟩).run P w = .ok (.value v) w)
    (rest : HeadR P K G w0 ops cl F0 H0 fin (k + 1) (.flt d v :: es)) : HeadR P K G w0 ops cl F0 H0 fin k es :=
  ⟨fun hk hl => .flt ho (fun β => by
      have := h β
      unfold avFR at this
      rw [pickR_eq hk (hl k)] at this
      exact this) (by rw [← rev_cons]; exact rest.go (by simp [hk]) hl)⟩
theorem HeadR.fresh {mk : Prm → Value} {ob : Prm → Hp} {ok : Prm → Prop} (ho : ops[k]? = some ⟨some d, op, ty, pos, after, none⟩)
    (h : ∀ β, allOk β (pickR es k (clAt cl k)) → New P K G w0 ⟨some d, op, ty, pos, after, none⟩ (avFR F0 es k (clAt cl k) β) (avHR H0 es k (clAt cl k) β) mk ob ok)
    (rest : HeadR P K G w0 ops cl F0 H0 fin (k + 1) (.fresh d mk ob ok :: es)) : HeadR P K G w0 ops cl F0 H0 fin k es :=
  ⟨fun hk hl => .fresh ho (fun β => by
      have := h β
      unfold avFR avHR at this
      rw [pickR_eq hk (hl k)] at this
      exact this) (by rw [← rev_cons]; exact rest.go (by simp [hk]) hl)⟩
variable {g : Nat} {t : Bool} {s : Nat}
theorem HeadR.no (ho : ops[k]? = some ⟨some d, op, ty, pos, after, some (g, t)⟩) (hs : (ops[g]?).bind (·.dst) = some s) (h : ∀ β, allOk β (pickR es k (clAt cl k)) → look (avFR F0 es k (clAt cl k) β) s = some (.bool (!t)))
    (rest : HeadR P K G w0 ops cl F0 H0 fin (k + 1) (.det d undef :: es)) : HeadR P K G w0 ops cl F0 H0 fin k es :=
  ⟨fun hk hl => .no ho hs (fun β => by
      have := h β
      unfold avFR at this
      rw [pickR_eq hk (hl k)] at this
      exact this) (by rw [← rev_cons]; exact rest.go (by simp [hk]) hl)⟩
theorem HeadR.un (ho : ops[k]? = some ⟨some d, op, ty, pos, after, some (g, t)⟩) (hs : (ops[g]?).bind (·.dst) = some s) (h : ∀ β, allOk β (pickR es k (clAt cl k)) → look (avFR F0 es k (clAt cl k) β) s = some undef)
    (rest : HeadR P K G w0 ops cl F0 H0 fin (k + 1) (.det d undef :: es)) : HeadR P K G w0 ops cl F0 H0 fin k es :=
  ⟨fun hk hl => .un ho hs (fun β => by
      have := h β
      unfold avFR at this
      rw [pickR_eq hk (hl k)] at this
      exact this) (by rw [← rev_cons]; exact rest.go (by simp [hk]) hl)⟩
theorem HeadR.yes (ho : ops[k]? = some ⟨some d, op, ty, pos, after, some (g, t)⟩) (hs : (ops[g]?).bind (·.dst) = some s) (hv : ∀ β, allOk β (pickR es k (clAt cl k)) → look (avFR F0 es k (clAt cl k) β) s = some (.bool t))
    (h : ∀ β, allOk β (pickR es k (clAt cl k)) → Det P K G w0 ⟨some d, op, ty, pos, after, some (g, t)⟩ (avFR F0 es k (clAt cl k) β) (avHR H0 es k (clAt cl k) β) v)
    (rest : HeadR P K G w0 ops cl F0 H0 fin (k + 1) (.det d v :: es)) : HeadR P K G w0 ops cl F0 H0 fin k es :=
  ⟨fun hk hl => .yes ho hs (fun β => by
      have := hv β
      unfold avFR at this
      rw [pickR_eq hk (hl k)] at this
      exact this) (fun β => by
      have := h β
      unfold avFR avHR at this
      rw [pickR_eq hk (hl k)] at this
      exact this) (by rw [← rev_cons]; exact rest.go (by simp [hk]) hl)⟩
theorem HeadR.yesFresh {mk : Prm → Value} {ob : Prm → Hp} {ok : Prm → Prop} (ho : ops[k]? = some ⟨some d, op, ty, pos, after, some (g, t)⟩) (hs : (ops[g]?).bind (·.dst) = some s) (hv : ∀ β, allOk β (pickR es k (clAt cl k)) → look (avFR F0 es k (clAt cl k) β) s = some (.bool t))
    (h : ∀ β, allOk β (pickR es k (clAt cl k)) → New P K G w0 ⟨some d, op, ty, pos, after, some (g, t)⟩ (avFR F0 es k (clAt cl k) β) (avHR H0 es k (clAt cl k) β) mk ob ok)
    (rest : HeadR P K G w0 ops cl F0 H0 fin (k + 1) (.fresh d mk ob ok :: es)) : HeadR P K G w0 ops cl F0 H0 fin k es :=
  ⟨fun hk hl => .yesFresh ho hs (fun β => by
      have := hv β
      unfold avFR at this
      rw [pickR_eq hk (hl k)] at this
      exact this) (fun β => by
      have := h β
      unfold avFR avHR at this
      rw [pickR_eq hk (hl k)] at this
      exact this) (by rw [← rev_cons]; exact rest.go (by simp [hk]) hl)⟩
end
end Go.Vm

/- Integers' operations at natural numbers, in the logic of partial frames and heaps. -/
namespace Go.Vm
open Go Go.RowKit
section
variable {P : Program} {K : List Nat} {G : Hp} {w0 : World} {F : Fr} {H : Hp} {ty : TypeId} {pos : String} {after : Array Edge} {x y : Operand} {xt yt : TypeId} {d : Option Tmp} {g : Option (Nat × Bool)}
theorem wrap_i64 {a : Int} (h : -9223372036854775808 ≤ a ∧ a ≤ 9223372036854775807) : IntKind.i64.wrap a = a := by simp [IntKind.wrap, IntKind.signed, IntKind.bits]; omega
theorem wrap_u64 {a : Int} (h : 0 ≤ a ∧ a ≤ 18446744073709551615) : IntKind.u64.wrap a = a := by simp [IntKind.wrap, IntKind.signed, IntKind.bits]; omega
theorem Det.to {o : Oper} {u v : Value} (h : Det P K G w0 o F H u) (e : u = v) : Det P K G w0 o F H v := e ▸ h
theorem det_subZ {a b c : Int} (hx : ev F x = some (.int .i64 a)) (hy : ev F y = some (.int .i64 b)) (hc : a - b = c) (h : -9223372036854775808 ≤ c ∧ c ≤ 9223372036854775807) : Det P K G w0 ⟨d, .binOp .sub xt x y yt, ty, pos, after, g⟩ F H (.int .i64 c) :=
  (det_sub hx hy).to (by rw [hc, wrap_i64 h])
theorem det_addZ {a b c : Int} (hx : ev F x = some (.int .i64 a)) (hy : ev F y = some (.int .i64 b)) (hc : a + b = c) (h : -9223372036854775808 ≤ c ∧ c ≤ 9223372036854775807) : Det P K G w0 ⟨d, .binOp .add xt x y yt, ty, pos, after, g⟩ F H (.int .i64 c) :=
  (det_add hx hy).to (by rw [hc, wrap_i64 h])
theorem det_quoN {a b : Nat} (hx : ev F x = some (.int .i64 a)) (hy : ev F y = some (.int .i64 b)) (hb : b ≠ 0) (h : a ≤ 9223372036854775807) : Det P K G w0 ⟨d, .binOp .quo xt x y yt, ty, pos, after, g⟩ F H (.int .i64 ((a / b : Nat) : Int)) :=
  (det_quo hx hy (by omega)).to (by
    have : (a : Int).tdiv (b : Int) = ((a / b : Nat) : Int) := by rw [Int.tdiv_eq_ediv_of_nonneg (by omega)]; exact Int.natCast_ediv a b |>.symm
    have h2 := Nat.div_le_self a b
    rw [this]
    generalize a / b = q at h2
    rw [wrap_i64 (by omega)])
theorem det_remN {a b : Nat} (hx : ev F x = some (.int .i64 a)) (hy : ev F y = some (.int .i64 b)) (hb : b ≠ 0) : Det P K G w0 ⟨d, .binOp .rem xt x y yt, ty, pos, after, g⟩ F H (.int .i64 ((a % b : Nat) : Int)) :=
  (det_rem hx hy (by omega)).to (by
    rw [Int.tmod_eq_emod_of_nonneg (by omega), ← Int.natCast_emod])
theorem det_shrN {a b : Nat} {k : IntKind} (hx : ev F x = some (.int .u64 a)) (hy : ev F y = some (.int k b)) (hb : b ≤ 64) : Det P K G w0 ⟨d, .binOp .shr xt x y yt, ty, pos, after, g⟩ F H (.int .u64 ((a / 2 ^ b : Nat) : Int)) :=
  (det_shr hx hy (by omega)).to (by
    rw [show min (b : Int).toNat IntKind.u64.bits = b from by show min (b : Int).toNat 64 = b; omega]
    congr 1
    rw [Int.fdiv_eq_ediv_of_nonneg _ (by exact Int.natCast_nonneg (2 ^ b)), Int.natCast_ediv]; rfl)
theorem det_shlN {a b : Nat} {k : IntKind} (hx : ev F x = some (.int .u64 a)) (hy : ev F y = some (.int k b)) (hb : b ≤ 64) : Det P K G w0 ⟨d, .binOp .shl xt x y yt, ty, pos, after, g⟩ F H (.int .u64 ((a * 2 ^ b % 18446744073709551616 : Nat) : Int)) :=
  (det_shl hx hy (by omega)).to (by
    rw [show min (b : Int).toNat IntKind.u64.bits = b from by show min (b : Int).toNat 64 = b; omega]
    congr 1)
theorem bits_nat {a b : Nat} (ha : a < 18446744073709551616) (hb : b < 18446744073709551616) : bitsOf .and .u64 a b = ((a &&& b : Nat) : Int) ∧ bitsOf .or .u64 a b = ((a ||| b : Nat) : Int) := by
  have h1 : (BitVec.ofInt IntKind.u64.bits (a : Int)).toNat = a := by
    show (BitVec.ofInt 64 (a : Int)).toNat = a
    rw [BitVec.toNat_ofInt]; omega
  have h2 : (BitVec.ofInt IntKind.u64.bits (b : Int)).toNat = b := by
    show (BitVec.ofInt 64 (b : Int)).toNat = b
    rw [BitVec.toNat_ofInt]; omega
  constructor
  · unfold bitsOf
    simp only [BitVec.toNat_and, h1, h2]
    refine wrap_u64 ⟨by omega, ?_⟩
    have := Nat.and_lt_two_pow a (n := 64) (y := b) (by omega)
    omega
  · unfold bitsOf
    simp only [BitVec.toNat_or, h1, h2]
    refine wrap_u64 ⟨by omega, ?_⟩
    have := Nat.or_lt_two_pow (n := 64) (x := a) (y := b) (by omega) (by omega)
    omega
theorem det_maskN {a m k : Nat} (hx : ev F x = some (.int .u64 a)) (hy : ev F y = some (.int .u64 m)) (ha : a < 18446744073709551616) (hm : m = 2 ^ k - 1) (hk : k ≤ 64) : Det P K G w0 ⟨d, .binOp .and xt x y yt, ty, pos, after, g⟩ F H (.int .u64 ((a % 2 ^ k : Nat) : Int)) :=
  (det_and hx hy).to (by
    have : 2 ^ k ≤ 2 ^ 64 := Nat.pow_le_pow_right (by decide) hk
    rw [(bits_nat ha (by omega)).1, hm, Nat.and_two_pow_sub_one_eq_mod])
end
end Go.Vm

/- copy, in the logic of partial frames and heaps. -/
namespace Go.Vm
open Go Go.RowKit
section
variable {P : Program} {n : Nat} {K : List Nat} {G : Hp} {w0 : World} {F : Fr} {H H' : Hp} {ops : Array Oper} {rest : List Oper} {R : Fr → Hp → Prop} {ty : TypeId} {pos : String} {after : Array Edge} {x y : Operand}
theorem OpsW.copy {dd dt st el b o dLen dCap b2 o2 sLen sCap : Nat} {cs scs cur cur' : List Value} {e e2 : TypeId} {fr2 : Nat × Nat} (hu : P.underlying dt = some (.slice el)) (hs : sizeIn P el = some 1)
    (hx : ev F x = some (.slice (some ⟨b, o, none⟩) dLen dCap)) (hy : ev F y = some (.slice (some ⟨b2, o2, none⟩) sLen sCap)) (hm : (b2, Obj.cells scs.toArray e2 fr2) ∈ H ∨ (b2, Obj.cells scs.toArray e2 fr2) ∈ G)
    (hl : cs.length = Nat.min sLen dLen) (hsrc : ∀ j u, cs[j]? = some u → scs[o2 + j]? = some u) (h1 : cs.all (·.oneCell') = true)
    (hu2 : Upd H b (blk cur e) (blk cur' e) H') (hsp : splice o cs cur = some cur') (hd : Nat.blt dd n = true) (h : OpsW P n K G w0 ops rest R ((dd, .int .i64 cs.length) :: F) H') :
    OpsW P n K G w0 ops (⟨some dd, .call { callee := .builtin .copy, args := #[x, y], argTypes := #[dt, st] }, ty, pos, after, none⟩ :: rest) R F H :=
  fun a w Qx r hq => wpList_any (by
    have hg := r.blocks _ hu2.mem
    have hs2 : w.heap[b2]? = some (.cells scs.toArray e2 fr2) := by
      rcases hm with hm | hm
      · exact r.blocks _ hm
      · exact r.old.look hm
    obtain ⟨e1, e3⟩ := splice_eq hsp
    have hsz : (P.info? el).map (·.size) = some 1 := hs
    have hr : (execOp a.eval ⟨some dd, .call { callee := .builtin .copy, args := #[x, y], argTypes := #[dt, st] }, ty, pos, after, none⟩).run P w = .ok (.value (goInt cs.length)) (w.setRow b cur'.toArray) := by
      have := run_copy_row (P := P) w dt st ty el b o dLen dCap ⟨b2, o2, none⟩ sLen sCap cur.toArray e cs hu hsz hg hl (fun j v hj => by rw [add_off, cell_blk hs2]; exact hsrc j v hj) (by simpa using e3) (fun v hv => by simpa using (List.all_eq_true.1 h1) v hv)
      rw [e1]
      simp [execOp, r.slots.ev hx, r.slots.ev hy, resolve, invoke, builtin, this]
    unfold Oper.wp
    rw [hr]
    exact h _ _ _ ((r.wrote hu2 (setRow_wrote hg)).put (of_decide_eq_true (by simpa using hd))) hq)
end
end Go.Vm

/- Blocks that are loaded and stored whole, in the logic of partial frames and heaps. -/
namespace Go.Vm
open Go Go.RowKit
section
variable {P : Program} {n : Nat} {K : List Nat} {G : Hp} {w0 : World} {F : Fr} {H H' : Hp} {ops : Array Oper} {rest : List Oper} {R : Fr → Hp → Prop} {ty : TypeId} {pos : String} {after : Array Edge} {x y : Operand} {d : Option Tmp} {g : Option (Nat × Bool)}
theorem cut_whole : ∀ {l : List Value}, takeN l.length l = some l
  | [] => rfl
  | c :: l => by simp only [List.length_cons, takeN, cut_whole]
theorem over_whole : ∀ {l cs : List Value}, l.length = cs.length → over l cs = some l
  | [], [], _ => rfl
  | v :: l, c :: cs, h => by simp only [over, over_whole (show l.length = cs.length from Nat.succ.inj h)]
  | [], _ :: _, h => by cases h
  | _ :: _, [], h => by cases h
theorem det_loadW {t : TypeId} {s b : Nat} {l : List Value} {e : TypeId} {fr : Nat × Nat} (ht : TyA P t s) (hlen : l.length = s) (hx : ev F x = some (.pointer (some ⟨b, 0, none⟩))) (hm : (b, Obj.cells l.toArray e fr) ∈ H) :
    Det P K G w0 ⟨d, .load t x, ty, pos, after, g⟩ F H (.agg l.toArray) :=
  det_loadA ht hx hm (by subst hlen; exact cut_whole)
theorem OpsW.storeW {t : TypeId} {s b : Nat} {cs l : List Value} {e : TypeId} (ht : sizeIn P t = some s) (hlen : l.length = s) (hlen' : cs.length = s) (h1 : l.all (·.oneCell') = true) (hx : ev F x = some (.pointer (some ⟨b, 0, none⟩))) (hy : ev F y = some (.agg l.toArray))
    (hu : Upd H b (blk cs e) (blk l e) H') (h : OpsW P n K G w0 ops rest R F H') :
    OpsW P n K G w0 ops (⟨none, .store t x y, ty, pos, after, none⟩ :: rest) R F H :=
  OpsW.store ht hx hy rfl hlen h1 hu (over_whole (by omega)) h
end
end Go.Vm

/- append as a new block, in regions that draw their order. -/
namespace Go.Vm
open Go Go.RowKit
section
variable {P : Program} {n : Nat} {K : List Nat} {G : Hp} {w0 : World} {F : Fr} {H H' : Hp} {ty : TypeId} {pos : String} {after : Array Edge} {x y : Operand} {d : Option Tmp} {g : Option (Nat × Bool)}
/-- append of some elements to a slice without room: a new block. -/
theorem new_append {t el s bytes : Nat} {zs : List Value} (T : TyS P t el s bytes zs) {b0 o0 b o m c : Nat} {cs news : List Value} {e : TypeId} {fr : Nat × Nat} (hx : ev F x = some (.slice (some ⟨b0, o0, none⟩) 0 0))
    (hy : ev F y = some (.slice (some ⟨b, o, none⟩) m c)) (hm : (b, Obj.cells cs.toArray e fr) ∈ H ∨ (b, Obj.cells cs.toArray e fr) ∈ G) (hl : news.length = m * s) (hnews : ∀ j u, news[j]? = some u → cs[o + j]? = some u)
    (h0 : 0 < m) (h63 : m ≤ maxLen) (hbytes : m * bytes ≤ 140737488355328) :
    New P K G w0 ⟨d, .call { callee := .builtin .append, args := #[x, y], argTypes := #[t, t] }, ty, pos, after, g⟩ F H (fun p => .slice (some ⟨p.1, 0, none⟩) m p.2.1)
      (fun p => [(p.1, blk (news ++ p.2.2) el)]) (fun p => (news ++ p.2.2).length = p.2.1 * s ∧ m ≤ p.2.1 ∧ p.2.1 ≤ maxLen) := by
  intro a w hs hb ho next Qx hn
  obtain ⟨i, z, hi, hz, hsz, hby, hzc⟩ := T.info
  subst hsz
  subst hby
  have hzs : z.cells.size = i.size := by rw [hzc]; simp [T.len]
  have hcell : ∀ j u, news[j]? = some u → w.cell? ((⟨b, o, none⟩ : Addr).add j) = some u := fun j u hj => by
    rw [add_off]
    rcases hm with hm | hm
    · rw [cell_blk (hb _ hm)]; exact hnews j u hj
    · rw [cell_blk (ho.look hm)]; exact hnews j u hj
  have hsmall : m ≤ 9223372036854775807 := by simp only [maxLen] at h63; omega
  have hr := run_append_grow (P := P) w t ty el i z T.und hi hz ⟨b0, o0, none⟩ 0 0 [] (by simp) (fun j u hj => by simp at hj) ⟨b, o, none⟩ m c news hl hcell (by omega) (by omega) (growslice_fits (by omega) (by rw [Nat.zero_add]; exact hbytes))
  simp only [Nat.zero_add] at hr
  have hge := grownCap_ge w m 0 el
  have hcm := grownCap_le_maxLen w m 0 el h63
  generalize hcap : grownCap w m 0 el = cap at hr hge hcm
  have hrun : (execOp a.eval ⟨d, .call { callee := .builtin .append, args := #[x, y], argTypes := #[t, t] }, ty, pos, after, g⟩).run P w = .ok (.value (.slice (some ⟨w.heap.size, 0, none⟩) m cap)) (w.drew.alloc (.cells (([] : List Value).toArray ++ news.toArray ++ Builtin.zeroCells z.cells (cap - m)) el)) := by
    simp [execOp, resolve, hs.ev hx, hs.ev hy, invoke, builtin, hr]
  unfold Oper.wp
  rw [hrun]
  refine hn (w.heap.size, cap, (Builtin.zeroCells z.cells (cap - m)).toList) _ ⟨?_, hge, hcm⟩ (((Below.refl _ _).drew).alloc (Nat.le_refl _) _) ?_ (by simp) (by simp)
  · simp only [List.length_append, Array.length_toList, size_zeroCells, hzs, hl]
    rw [← Nat.add_mul]
    congr 1
    omega
  · intro p hp
    simp only [List.mem_singleton] at hp
    subst hp
    show (w.drew.heap.push _)[w.heap.size]? = some _
    have : w.drew.heap.size = w.heap.size := rfl
    rw [← this, Array.getElem?_push_size]
    congr 2
    apply Array.ext'
    simp
/-- append of nothing to a slice that is empty. -/
theorem new_append0 {t el s bytes : Nat} {zs : List Value} (T : TyS P t el s bytes zs) {b0 : Nat} {ad' : Option Addr} {m c : Nat} (hx : ev F x = some (.slice (some ⟨b0, 0, none⟩) 0 0)) (hy : ev F y = some (.slice ad' m c)) (hm : m = 0) :
    New P K G w0 ⟨d, .call { callee := .builtin .append, args := #[x, y], argTypes := #[t, t] }, ty, pos, after, g⟩ F H (fun p => .slice (some ⟨p.1, 0, none⟩) 0 0) (fun _ => []) (fun _ => True) := by
  subst hm
  intro a w hs hb ho next Qx hn
  obtain ⟨i, z, hi, hz, hsz, hby, hzc⟩ := T.info
  have hr : (Builtin.append_ #[t, t] ty #[.slice (some ⟨b0, 0, none⟩) 0 0, .slice ad' 0 c]).run P w = .ok (.slice (some ⟨b0, 0, none⟩) 0 0) w := by
    cases ad' <;> simp [Builtin.append_, run_underlying T.und, sizeOf, typeInfo, hi, Builtin.lenOf, Builtin.firstCells, loadCells, loadCellsFrom, storeCells]
  have hrun : (execOp a.eval ⟨d, .call { callee := .builtin .append, args := #[x, y], argTypes := #[t, t] }, ty, pos, after, g⟩).run P w = .ok (.value (.slice (some ⟨b0, 0, none⟩) 0 0)) w := by
    simp [execOp, resolve, hs.ev hx, hs.ev hy, invoke, builtin, hr]
  unfold Oper.wp
  rw [hrun]
  exact hn (b0, 0, []) w trivial (Below.refl _ _) (fun p hp => by cases hp) List.nodup_nil (fun p hp => by cases hp)
/-- .. said with the length of what is appended. -/
theorem new_append0m {t el s bytes : Nat} {zs : List Value} (T : TyS P t el s bytes zs) {b0 : Nat} {ad' : Option Addr} {m c : Nat} (hx : ev F x = some (.slice (some ⟨b0, 0, none⟩) 0 0)) (hy : ev F y = some (.slice ad' m c)) (hm : m = 0) :
    New P K G w0 ⟨d, .call { callee := .builtin .append, args := #[x, y], argTypes := #[t, t] }, ty, pos, after, g⟩ F H (fun p => .slice (some ⟨p.1, 0, none⟩) m 0) (fun _ => []) (fun _ => True) := by
  subst hm
  exact new_append0 T hx hy rfl
/-- Blocks to the front. -/
theorem OpsW.front1 {n : Nat} {ops : Array Oper} {l : List Oper} {R : Fr → Hp → Prop} {a b : Nat × Obj} (h : OpsW P n K G w0 ops l R F (b :: a :: H)) : OpsW P n K G w0 ops l R F (a :: b :: H) := OpsW.perm (.swap _ _ _) h
theorem OpsW.front2 {n : Nat} {ops : Array Oper} {l : List Oper} {R : Fr → Hp → Prop} {a b c : Nat × Obj} (h : OpsW P n K G w0 ops l R F (c :: a :: b :: H)) : OpsW P n K G w0 ops l R F (a :: b :: c :: H) := OpsW.perm ((List.Perm.swap _ _ _).trans ((List.Perm.swap _ _ _).cons _)) h
theorem OpsW.front3 {n : Nat} {ops : Array Oper} {l : List Oper} {R : Fr → Hp → Prop} {a b c d : Nat × Obj} (h : OpsW P n K G w0 ops l R F (d :: a :: b :: c :: H)) : OpsW P n K G w0 ops l R F (a :: b :: c :: d :: H) := OpsW.perm ((List.Perm.swap _ _ _).trans (((List.Perm.swap _ _ _).trans ((List.Perm.swap _ _ _).cons _)).cons _)) h
/-- A slice of the function's own that is not empty. -/
theorem isSl_pos {el s : Nat} {v : Value} {len : Nat} {hp : Hp} {xs : List Value} (h : IsSl el s v len hp xs) (h0 : 0 < len) : ∃ (b cap : Nat) (spare : List Value), v = .slice (some ⟨b, 0, none⟩) len cap ∧ hp = [(b, blk (xs ++ spare) el)] ∧ (xs ++ spare).length = cap * s ∧ cap ≤ maxLen := by
  cases h with
  | nil => omega
  | at_ h1 h2 h3 => exact ⟨_, _, _, rfl, rfl, h2, h3⟩
end
/-! ### Cuts: what holds behind a piece of code, said once -/
section
variable {P : Program} {n : Nat} {K : List Nat} {G : Hp} {w0 : World} {Q : Exit → Fr → Hp → Prop} {F : Fr} {H : Hp}
/-- What a piece of code has to leave; Q: where it leaves by another way. -/
def cutEnd {σ : Type} (FI : σ → Fr) (HI : σ → Hp) (ok : σ → Prop) (Q : Exit → Fr → Hp → Prop) : Exit → Fr → Hp → Prop
  | .normal, F, H => ∃ s, ok s ∧ Sub (FI s) F ∧ (HI s).Sublist H
  | e, F, H => Q e F H
theorem stk_else {r : List Code} {e : Exit} (he : e ≠ .normal) (h : Q e F H) : stk P n K G w0 r Q e F H := by
  cases r with
  | nil => exact h
  | cons c r => cases e <;> first | exact absurd rfl he | exact h
theorem sCut {σ : Type} (FI : σ → Fr) (HI : σ → Hp) (ok : σ → Prop) {x y : Code} {r : List Code} (h1 : W P n K G w0 x (stk P n K G w0 [] (cutEnd FI HI ok Q)) F H)
    (h2 : ∀ s, ok s → W P n K G w0 y (stk P n K G w0 r Q) (FI s) (HI s)) : W P n K G w0 x (stk P n K G w0 (y :: r) Q) F H :=
  h1.mono fun e F' H' q => by
    cases e with
    | normal =>
      obtain ⟨s, hs, hF, hH⟩ := q
      exact W.sub hF hH (h2 s hs)
    | _ => exact stk_else (by simp) q
/-- .. of two pieces. -/
theorem sCut2 {σ : Type} (FI : σ → Fr) (HI : σ → Hp) (ok : σ → Prop) {x z y : Code} {r : List Code} (h1 : W P n K G w0 x (stk P n K G w0 [z] (cutEnd FI HI ok Q)) F H)
    (h2 : ∀ s, ok s → W P n K G w0 y (stk P n K G w0 r Q) (FI s) (HI s)) : W P n K G w0 x (stk P n K G w0 (z :: y :: r) Q) F H :=
  h1.mono fun e F' H' q => by
    cases e with
    | normal => exact sCut FI HI ok q h2
    | _ => exact stk_else (by simp) q
theorem cutRet {σ : Type} {FI : σ → Fr} {HI : σ → Hp} {ok : σ → Prop} (h : Q .ret F H) : cutEnd FI HI ok Q .ret F H := h
theorem cutExit {σ : Type} {FI : σ → Fr} {HI : σ → Hp} {ok : σ → Prop} {id : Nat} (h : Q (.exit id) F H) : cutEnd FI HI ok Q (.exit id) F H := h
theorem cutOk {σ : Type} {FI : σ → Fr} {HI : σ → Hp} {ok : σ → Prop} (s : σ) (h1 : ok s) (h2 : Sub (FI s) F) (h3 : (HI s).Sublist H) : cutEnd FI HI ok Q .normal F H := ⟨s, h1, h2, h3⟩
end
/-! ### Cells of things that lie one behind the other -/
theorem dropN_app : ∀ (xs r : List Value) (k : Nat), dropN (k + xs.length) (xs ++ r) = dropN k r
  | [], _, _ => rfl
  | x :: xs, r, k => dropN_app xs r k
theorem takeN_app : ∀ (xs r : List Value), takeN xs.length (xs ++ r) = some xs
  | [], _ => rfl
  | x :: xs, r => by
    show takeN (xs.length + 1) (x :: (xs ++ r)) = _
    simp only [takeN, takeN_app xs r]
theorem flat_len {α : Type} {f : α → List Value} {s : Nat} (hf : ∀ a, (f a).length = s) : ∀ L : List α, ((L.map f).flatten).length = L.length * s
  | [] => by simp
  | a :: L => by rw [List.map_cons, List.flatten_cons, List.length_append, hf, flat_len hf L, List.length_cons, Nat.succ_mul, Nat.add_comm]
theorem flat_cut {α : Type} {f : α → List Value} {s : Nat} (hf : ∀ a, (f a).length = s) (r : List Value) : ∀ {L : List α} {i : Nat} (h : i < L.length), cut (i * s) s ((L.map f).flatten ++ r) = some (f L[i])
  | a :: L, 0, h => by
    unfold cut
    rw [Nat.zero_mul, List.map_cons, List.flatten_cons, List.append_assoc]
    show takeN s (f a ++ _) = some (f a)
    have := takeN_app (f a) ((L.map f).flatten ++ r)
    rwa [hf] at this
  | a :: L, i + 1, h => by
    have ih := flat_cut hf r (L := L) (i := i) (Nat.lt_of_succ_lt_succ h)
    unfold cut at ih ⊢
    have := dropN_app (f a) ((L.map f).flatten ++ r) (i * s)
    rw [hf] at this
    rw [Nat.succ_mul, List.map_cons, List.flatten_cons, List.append_assoc, this, ih]
    rfl
theorem flat_snoc {α : Type} (f : α → List Value) (L : List α) (a : α) : ((L ++ [a]).map f).flatten = (L.map f).flatten ++ f a := by simp
end Go.Vm

/- What a row's premises give a walk: slices of bytes, listed variables. -/
namespace Go.Vm
open Go Go.RowKit Go.WideElems Go.ChangeShapes Go.WideShapes
set_option linter.unusedVariables false
set_option linter.unusedSimpArgs false
set_option linter.unusedSectionVars false
set_option linter.constructorNameAsVariable false

section
variable {H : Type} {enc : TypeId × Value → H} {P : Program} {W : World}
theorem laid_tail {x : String × DataW Unit} {r : List (String × DataW Unit)} {w : World} (h : laidMet P (x :: r) w) : laidMet P r w := by
  obtain ⟨ps, hv, hnd, hrows⟩ := h
  obtain ⟨n, d⟩ := x
  obtain ⟨g, t, cs, fuel, p, q, _, _, _, _, hq, rfl⟩ := hv
  exact ⟨q, hq, List.Nodup.sublist (List.sublist_append_right _ _) hnd, fun b off hm => hrows b off (List.mem_append_right _ hm)⟩
theorem laid_block {name : String} {k : IntKind} {zs : List Int} {rest : List (String × DataW Unit)} {g : Nat} {t e : TypeId} {n : Nat}
    (hg : P.globalNamed name = some g) (hty : (P.globals[g]?).map (·.type) = some t) (ht : P.underlying t = some (.array n e)) (he : P.underlying e = some (.int k)) (hce : P.cellsOf e = 1) (hct : P.cellsOf t = n)
    (h : laidMet P ((name, Lib.tabData k zs) :: rest) W) : ∃ T : TypeId × Nat × Nat, W.heap[g]? = some (.cells (zs.map fun z => Value.int k z).toArray T.1 T.2) := by
  have hv := Lib.tabIs_of_head hg hty ht he hce hct h
  unfold Lib.TabIs World.var? at hv
  rw [hg] at hv
  simp only [Option.bind_some] at hv
  split at hv
  · rename_i cs T fr hh
    rw [hh]
    exact ⟨(T, fr), by rw [Option.some.inj hv]⟩
  · cases hv
/-- A slice of bytes: either nil, or a piece of a block. -/
theorem open_u8s {base : Nat} {t e : TypeId} {v : Value} {d : DataW H} {ps : List MemPlace} (ht : P.underlying t = some (.slice e)) (he : P.underlying e = some (.int .u8)) (hc : P.cellsOf e = 1)
    (hval : Value.okWide P W .any base t v) (h : DataW.Trod enc P W 0 (fun _ => true) true t v d ps) :
    v = .slice none 0 0 ∨ ∃ (b o len cap : Nat) (cs : List Value) (T : TypeId) (fr : Nat × Nat) (zs : List Nat), v = .slice (some ⟨b, o, none⟩) len cap ∧ W.heap[b]? = some (.cells cs.toArray T fr) ∧ zs.length = len ∧ len ≤ cap ∧ cap ≤ maxLen ∧
      (∀ z ∈ zs, z < 256) ∧ ∀ (i z : Nat), zs[i]? = some z → cs[o + i]? = some (.int .u8 (z : Int)) := by
  have hcell : Cell.ok P W .any base t v := by
    unfold Value.okWide at hval
    rw [ht] at hval
    have hval : Cell.okWide P W .any base t v := hval
    unfold Cell.okWide at hval
    rw [ht] at hval
    cases v <;> exact hval
  obtain ⟨fuel, h⟩ := h
  have hag : v.cells.toList = [v] := by
    cases v <;> first | rfl | (unfold Cell.ok at hcell; rw [ht] at hcell; exact hcell.elim)
  rw [hag] at h
  rcases open_ints ht he hc h with ⟨h1, _⟩ | ⟨a, len, cap, zs, h1, _, h3, h4, h5, _, h7, h8⟩
  · exact .inl (by simpa using h1)
  · right
    obtain rfl : v = .slice (some a) len cap := by simpa using h1
    have wf : ∀ y ∈ zs, 0 ≤ y ∧ y ≤ 255 := fun y hy => by
      have := h8 y hy
      unfold Lit.wf at this
      simp only [Bool.and_eq_true, decide_eq_true_eq] at this
      exact this
    unfold Cell.ok at hcell
    rw [ht] at hcell
    obtain ⟨_, _, _, hsp, row, cells, hshape, _⟩ := hcell
    obtain ⟨b, o, sp⟩ := a
    obtain rfl : sp = none := hsp
    unfold World.shape? at hshape
    split at hshape
    · rename_i c elem fr hh
      rw [if_pos rfl] at h5
      refine ⟨b, o, len, cap, c.toList, elem, fr, (zs.take len).map Int.toNat, rfl, by rw [hh], ?_, h3, h4, ?_, ?_⟩
      · rw [List.length_map, List.length_take]; omega
      · intro z hz
        obtain ⟨y, hy, rfl⟩ := List.mem_map.1 hz
        have := wf y (List.mem_of_mem_take hy)
        omega
      · intro i z hz
        rw [List.getElem?_map, Option.map_eq_some_iff] at hz
        obtain ⟨y, hy, rfl⟩ := hz
        have hy2 : zs[i]? = some y := by
          rw [List.getElem?_take] at hy
          split at hy
          · exact hy
          · cases hy
        have hlt := (List.getElem?_eq_some_iff.1 hy2).1
        have := h7 i hlt
        rw [add_off] at this
        unfold World.cell? at this
        rw [hh] at this
        have h10 := wf y (List.mem_of_getElem? hy2)
        simp only [Option.isSome_none, Bool.false_eq_true, if_false] at this
        rw [Array.getElem?_toList, this, List.getD_eq_getElem?_getD, hy2]
        simp; omega
    · cases hshape
end
end Go.Vm

/- Slices of ints among a row's arguments. -/
namespace Go.Vm
open Go Go.RowKit Go.WideElems Go.ChangeShapes Go.WideShapes
set_option linter.unusedVariables false
set_option linter.unusedSimpArgs false
set_option linter.unusedSectionVars false
set_option linter.constructorNameAsVariable false
/-- v is a slice of the ints l, which lie in a block of G'. -/
structure Ints (G' : Hp) (v : Value) (l : List Int) : Prop where
  shape : ∃ ad cap, v = .slice ad l.length cap
  all : 0 < l.length → ∃ (b o cap : Nat) (cs : List Value) (e : TypeId) (fr : Nat × Nat), v = .slice (some ⟨b, o, none⟩) l.length cap ∧ (b, Obj.cells cs.toArray e fr) ∈ G' ∧ ∀ i (h : i < l.length), cs[o + i]? = some (.int .i64 l[i])
theorem Ints.mono {G' G'' : Hp} {v : Value} {l : List Int} (h : Ints G' v l) (hs : ∀ p ∈ G', p ∈ G'') : Ints G'' v l :=
  ⟨h.shape, fun i => by obtain ⟨b, o, cap, cs, e, fr, h1, h2, h3⟩ := h.all i; exact ⟨b, o, cap, cs, e, fr, h1, hs _ h2, h3⟩⟩
section
variable {H : Type} {enc : TypeId × Value → H} {P : Program} {W : World}
theorem cell_heap' {a : Addr} {v : Value} (h : W.cell? a = some v) : a.spot = none ∧ ∃ cs T fr, W.heap[a.block]? = some (.cells cs T fr) ∧ cs[a.off]? = some v := by
  have h1 := World.cell?_spot h
  refine ⟨h1, ?_⟩
  unfold World.cell? at h
  split at h
  · rename_i c T fr hh
    rw [h1] at h
    exact ⟨c, T, fr, hh, by simpa using h⟩
  · cases h
/-- A slice of ints: its numbers, and how long it is at most. -/
theorem open_Ints {base : Nat} {t e : TypeId} {v : Value} {d : DataW H} {ps : List MemPlace} (ht : P.underlying t = some (.slice e)) (he : P.underlying e = some (.int .i64)) (hc : P.cellsOf e = 1) (hby : P.bytesOf e = 8)
    (hval : Value.okWide P W .any base t v) (h : DataW.Trod enc P W 0 (fun _ => true) true t v d ps) (hw : ∀ n ∈ d.weights P t, n ≤ reachBytes) :
    ∃ G' l, Ints G' v l ∧ Blocks G' W ∧ l.length * 8 ≤ reachBytes := by
  have hcell : Cell.ok P W .any base t v := by
    unfold Value.okWide at hval
    rw [ht] at hval
    have hval : Cell.okWide P W .any base t v := hval
    unfold Cell.okWide at hval
    rw [ht] at hval
    cases v <;> exact hval
  obtain ⟨fuel, h⟩ := h
  have hag : v.cells.toList = [v] := by
    cases v <;> first | rfl | (unfold Cell.ok at hcell; rw [ht] at hcell; exact hcell.elim)
  rw [hag] at h
  rcases open_ints ht he hc h with ⟨h1, _⟩ | ⟨a, len, cap, zs, h1, _, h3, h4, h5, hx, h7, h8⟩
  · obtain rfl : v = .slice none 0 0 := by simpa using h1
    exact ⟨[], [], ⟨⟨none, 0, rfl⟩, fun hc => absurd hc (Nat.lt_irrefl 0)⟩, fun p hp => (by cases hp), Nat.zero_le _⟩
  · obtain rfl : v = .slice (some a) len cap := by simpa using h1
    rw [if_pos rfl] at h5
    have hd : d = .slice (lits .i64 (zs.take len)) (lits .i64 (zs.drop len)) := congrArg Prod.fst hx
    have hlen : (zs.take len).length = len := by rw [List.length_take]; omega
    have hsz : len * 8 ≤ reachBytes := by
      have := hw (((lits (H := H) .i64 (zs.take len)).length + (lits (H := H) .i64 (zs.drop len)).length) * P.bytesOf e) (by rw [hd]; simp [DataW.weights, ht])
      rw [hby] at this
      have h9 : (lits (H := H) .i64 (zs.take len)).length = len := by simp [lits]; omega
      omega
    rcases Nat.eq_zero_or_pos len with h0 | h0
    · subst h0
      exact ⟨[], [], ⟨⟨some a, cap, rfl⟩, fun hc => absurd hc (Nat.lt_irrefl 0)⟩, fun p hp => (by cases hp), Nat.zero_le _⟩
    · obtain ⟨b, o, sp⟩ := a
      obtain ⟨hs, cs, T, fr, hh, _⟩ := cell_heap' (h7 0 (by omega))
      have hs : sp = none := by simpa [Addr.add] using hs
      subst hs
      rw [add_off] at hh
      refine ⟨[(b, .cells cs T fr)], zs.take len, ⟨⟨_, cap, by rw [hlen]⟩, fun _ => ⟨b, o, cap, cs.toList, T, fr, by rw [hlen], by simp, fun i hi => ?_⟩⟩, fun p hp => ?_, by rw [hlen]; exact hsz⟩
      · have hi2 : i < len := by rw [hlen] at hi; exact hi
        have h2 := h7 i (by omega)
        rw [add_off] at h2
        unfold World.cell? at h2
        rw [show W.heap[b]? = some (.cells cs T fr) from hh] at h2
        rw [Array.getElem?_toList]
        have h2 : cs[o + i]? = some (.int .i64 (zs.getD i 0)) := by simpa using h2
        rw [h2, List.getElem_take, List.getD_eq_getElem?_getD, List.getElem?_eq_getElem (by omega)]
        rfl
      · rw [List.mem_singleton.1 hp]; exact hh
end
end Go.Vm

/- Numbers modulo m, and how a number of Go's fields is laid into words. -/
namespace Go.Cu
open Go Go.Vm

/-- The modulus of the curve's field. -/
def pp : Nat := 0x1a0111ea397fe69a4b1ba7b6434bacd764774b84f38512bf6730d2a0f6b0f6241eabfffeb153ffffb9feffffffffaaab
/-- The group's order. -/
def rr : Nat := 0x73eda753299d7d483339d80809a1d80553bda402fffe5bfeffffffff00000001
theorem pp_pos : 0 < pp := by decide
theorem rr_pos : 0 < rr := by decide

/-- A number modulo m. -/
structure Zp (m : Nat) where
  val : Nat
  lt : val < m

theorem Zp.ext {m : Nat} : ∀ {x y : Zp m}, x.val = y.val → x = y
  | ⟨_, _⟩, ⟨_, _⟩, rfl => rfl

class Pos (m : Nat) : Prop where
  pos : 0 < m
instance : Pos pp := ⟨pp_pos⟩
instance : Pos rr := ⟨rr_pos⟩

section
variable {m : Nat} [Pos m]
def Zp.of (n : Nat) : Zp m := ⟨n % m, Nat.mod_lt _ Pos.pos⟩
def Zp.add (x y : Zp m) : Zp m := Zp.of (x.val + y.val)
def Zp.mul (x y : Zp m) : Zp m := Zp.of (x.val * y.val)
def Zp.neg (x : Zp m) : Zp m := Zp.of (m - x.val)
def Zp.sub (x y : Zp m) : Zp m := Zp.of (x.val + (m - y.val))
instance : Add (Zp m) := ⟨Zp.add⟩
instance : Mul (Zp m) := ⟨Zp.mul⟩
instance : Neg (Zp m) := ⟨Zp.neg⟩
instance : Sub (Zp m) := ⟨Zp.sub⟩
instance : Zero (Zp m) := ⟨Zp.of 0⟩
instance : One (Zp m) := ⟨Zp.of 1⟩
instance : DecidableEq (Zp m) := fun x y => decidable_of_iff (x.val = y.val) ⟨Zp.ext, fun h => by rw [h]⟩
theorem Zp.add_val (x y : Zp m) : (x + y).val = (x.val + y.val) % m := rfl
theorem Zp.mul_val (x y : Zp m) : (x * y).val = (x.val * y.val) % m := rfl
theorem Zp.neg_val (x : Zp m) : (-x).val = (m - x.val) % m := rfl
theorem Zp.sub_val (x y : Zp m) : (x - y).val = (x.val + (m - y.val)) % m := rfl
theorem Zp.zero_val : (0 : Zp m).val = 0 := Nat.zero_mod m
end

abbrev Fq := Zp pp
abbrev Fs := Zp rr

/-- Word number i. -/
def lim (m i : Nat) : Nat := m / 18446744073709551616 ^ i % 18446744073709551616
theorem lim_lt (m i : Nat) : lim m i < 18446744073709551616 := Nat.mod_lt _ (by decide)
def u64 (n : Nat) : Value := .int .u64 (n : Int)
def enc6 (m : Nat) : Value := .agg #[u64 (lim m 0), u64 (lim m 1), u64 (lim m 2), u64 (lim m 3), u64 (lim m 4), u64 (lim m 5)]
def enc4 (m : Nat) : Value := .agg #[u64 (lim m 0), u64 (lim m 1), u64 (lim m 2), u64 (lim m 3)]
/-- 2^384, 2^256. -/
def R6 : Nat := 0x1000000000000000000000000000000000000000000000000000000000000000000000000000000000000000000000000
def R4 : Nat := 0x10000000000000000000000000000000000000000000000000000000000000000
/-- The forms in which Go keeps the numbers. -/
def mont (x : Fq) : Nat := x.val * R6 % pp
def montr (x : Fs) : Nat := x.val * R4 % rr
theorem mont_lt (x : Fq) : mont x < pp := Nat.mod_lt _ pp_pos
theorem montr_lt (x : Fs) : montr x < rr := Nat.mod_lt _ rr_pos
def encF (x : Fq) : Value := enc6 (mont x)
def encR (x : Fs) : Value := enc4 (montr x)

/-- Six words' number. -/
def val6 (a0 a1 a2 a3 a4 a5 : Nat) : Nat := a0 + 18446744073709551616 * (a1 + 18446744073709551616 * (a2 + 18446744073709551616 * (a3 + 18446744073709551616 * (a4 + 18446744073709551616 * a5))))
theorem lim_of (m : Nat) : m % 18446744073709551616 = lim m 0 := by simp [lim]
theorem lim_succ (m i : Nat) : lim m (i + 1) = lim (m / 18446744073709551616) i := by
  unfold lim
  rw [Nat.pow_succ, Nat.mul_comm, Nat.div_div_eq_div_mul]
theorem div_val {a b : Nat} (h : a < 18446744073709551616) : (a + 18446744073709551616 * b) / 18446744073709551616 = b := by omega
theorem mod_val {a b : Nat} (h : a < 18446744073709551616) : (a + 18446744073709551616 * b) % 18446744073709551616 = a := by omega
/-- A number's words are those that make it. -/
theorem lim6 {a0 a1 a2 a3 a4 a5 : Nat} (h0 : a0 < 18446744073709551616) (h1 : a1 < 18446744073709551616) (h2 : a2 < 18446744073709551616) (h3 : a3 < 18446744073709551616) (h4 : a4 < 18446744073709551616) (h5 : a5 < 18446744073709551616) :
    enc6 (val6 a0 a1 a2 a3 a4 a5) = .agg #[u64 a0, u64 a1, u64 a2, u64 a3, u64 a4, u64 a5] := by
  unfold enc6 val6
  simp only [lim_succ, ← lim_of, div_val h0, mod_val h0, div_val h1, mod_val h1, div_val h2, mod_val h2, div_val h3, mod_val h3, div_val h4, mod_val h4, Nat.mod_eq_of_lt h5]
theorem val_lim6 {m : Nat} (h : m < R6) : val6 (lim m 0) (lim m 1) (lim m 2) (lim m 3) (lim m 4) (lim m 5) = m := by
  unfold val6
  simp only [lim_succ, ← lim_of]
  unfold R6 at h
  omega
def val4 (a0 a1 a2 a3 : Nat) : Nat := a0 + 18446744073709551616 * (a1 + 18446744073709551616 * (a2 + 18446744073709551616 * a3))
theorem lim4 {a0 a1 a2 a3 : Nat} (h0 : a0 < 18446744073709551616) (h1 : a1 < 18446744073709551616) (h2 : a2 < 18446744073709551616) (h3 : a3 < 18446744073709551616) :
    enc4 (val4 a0 a1 a2 a3) = .agg #[u64 a0, u64 a1, u64 a2, u64 a3] := by
  unfold enc4 val4
  simp only [lim_succ, ← lim_of, div_val h0, mod_val h0, div_val h1, mod_val h1, div_val h2, mod_val h2, Nat.mod_eq_of_lt h3]
theorem val_lim4 {m : Nat} (h : m < R4) : val4 (lim m 0) (lim m 1) (lim m 2) (lim m 3) = m := by
  unfold val4
  simp only [lim_succ, ← lim_of]
  unfold R4 at h
  omega
end Go.Cu

/- Commutative rings, numbers modulo m among them; powers; identities by reflection. -/
namespace Go.Cu
open Go
set_option linter.unusedVariables false
set_option linter.unusedSimpArgs false
set_option linter.unusedSectionVars false
set_option linter.constructorNameAsVariable false

class CR (α : Type) extends Add α, Mul α, Neg α, Sub α, Zero α, One α where
  add_comm : ∀ a b : α, a + b = b + a
  add_assoc : ∀ a b c : α, a + b + c = a + (b + c)
  zero_add : ∀ a : α, 0 + a = a
  neg_add : ∀ a : α, -a + a = 0
  sub_eq : ∀ a b : α, a - b = a + -b
  mul_comm : ∀ a b : α, a * b = b * a
  mul_assoc : ∀ a b c : α, a * b * c = a * (b * c)
  one_mul : ∀ a : α, 1 * a = a
  mul_add : ∀ a b c : α, a * (b + c) = a * b + a * c

section
variable {m : Nat} [Pos m]
theorem Zp.of_val (n : Nat) : (Zp.of n : Zp m).val = n % m := rfl
theorem Zp.zmod : (0 : Nat) % m = 0 := Nat.zero_mod m
theorem Zp.self (x : Zp m) : x.val % m = x.val := Nat.mod_eq_of_lt x.lt
instance : CR (Zp m) where
  add_comm a b := Zp.ext (by rw [Zp.add_val, Zp.add_val, Nat.add_comm])
  add_assoc a b c := Zp.ext (by simp only [Zp.add_val, Nat.mod_add_mod, Nat.add_mod_mod, Nat.add_assoc])
  zero_add a := Zp.ext (by rw [Zp.add_val, Zp.zero_val, Nat.zero_add, Zp.self])
  neg_add a := Zp.ext (by
    rw [Zp.add_val, Zp.neg_val, Zp.zero_val, Nat.mod_add_mod, Nat.sub_add_cancel (Nat.le_of_lt a.lt), Nat.mod_self])
  sub_eq a b := Zp.ext (by rw [Zp.add_val, Zp.neg_val, Zp.sub_val, Nat.add_mod_mod])
  mul_comm a b := Zp.ext (by rw [Zp.mul_val, Zp.mul_val, Nat.mul_comm])
  mul_assoc a b c := Zp.ext (by simp only [Zp.mul_val, Nat.mod_mul_mod, Nat.mul_mod_mod, Nat.mul_assoc])
  one_mul a := Zp.ext (by
    rw [Zp.mul_val]
    show (1 % m) * a.val % m = a.val
    rw [Nat.mod_mul_mod, Nat.one_mul, Zp.self])
  mul_add a b c := Zp.ext (by simp only [Zp.mul_val, Zp.add_val, Nat.mul_mod_mod, Nat.mul_add, Nat.add_mod_mod, Nat.mod_add_mod])
end

section
variable {α : Type} [CR α]
open CR
theorem add_zero' (a : α) : a + 0 = a := by rw [add_comm, zero_add]
theorem add_neg (a : α) : a + -a = 0 := by rw [add_comm, neg_add]
theorem mul_one' (a : α) : a * 1 = a := by rw [mul_comm, one_mul]
theorem add_mul' (a b c : α) : (a + b) * c = a * c + b * c := by rw [mul_comm, mul_add, mul_comm c, mul_comm c]
theorem add_left_cancel' {a b c : α} (h : a + b = a + c) : b = c := by
  have := congrArg (-a + ·) h
  simpa only [← add_assoc, neg_add, zero_add] using this
theorem mul_zero' (a : α) : a * 0 = 0 := by
  have h : a * 0 + a * 0 = a * 0 + 0 := by rw [← mul_add, zero_add, add_zero']
  exact add_left_cancel' h
theorem zero_mul' (a : α) : 0 * a = 0 := by rw [mul_comm, mul_zero']
theorem neg_zero' : -(0 : α) = 0 := by have := neg_add (0 : α); rwa [add_zero'] at this
theorem neg_mul' (a b : α) : -a * b = -(a * b) := by
  have h : a * b + -a * b = a * b + -(a * b) := by rw [← add_mul', add_neg, zero_mul', add_neg]
  exact add_left_cancel' h
theorem neg_neg' (a : α) : - -a = a := by
  have h : -a + - -a = -a + a := by rw [add_neg, neg_add]
  exact add_left_cancel' h
theorem neg_add_rev (a b : α) : -(a + b) = -a + -b := by
  have h : (a + b) + -(a + b) = (a + b) + (-a + -b) := by
    rw [add_neg, add_comm (-a), add_assoc, ← add_assoc b, add_neg, zero_add, add_neg]
  exact add_left_cancel' h
theorem sub_self' (a : α) : a - a = 0 := by rw [sub_eq, add_neg]
theorem sub_zero' (a : α) : a - 0 = a := by rw [sub_eq, neg_zero', add_zero']
theorem zero_sub' (a : α) : 0 - a = -a := by rw [sub_eq, zero_add]
theorem eq_of_sub {a b : α} (h : a - b = 0) : a = b := by
  have := congrArg (· + b) h
  simpa only [sub_eq, add_assoc, neg_add, add_zero', zero_add] using this

def pw (x : α) : Nat → α
  | 0 => 1
  | n + 1 => pw x n * x
theorem pw_add (x : α) (a : Nat) : ∀ b, pw x (a + b) = pw x a * pw x b
  | 0 => by rw [Nat.add_zero, pw, mul_one']
  | b + 1 => by rw [← Nat.add_assoc, pw, pw, pw_add x a b, mul_assoc]
theorem pw_two (x : α) (a : Nat) : pw x (2 * a) = pw x a * pw x a := by rw [Nat.two_mul, pw_add]
theorem pw_16 (x : α) (a : Nat) : pw x (16 * a) = (let y := pw x a * pw x a; let z := y * y; let u := z * z; u * u) := by
  rw [show 16 * a = 2 * (2 * (2 * (2 * a))) by omega, pw_two, pw_two, pw_two, pw_two]
theorem mul_pw (x y : α) : ∀ n, pw (x * y) n = pw x n * pw y n
  | 0 => by rw [pw, pw, pw, one_mul]
  | n + 1 => by rw [pw, pw, pw, mul_pw x y n, mul_assoc, mul_assoc, ← mul_assoc (pw y n), mul_comm (pw y n), mul_assoc x]
theorem one_pw : ∀ n, pw (1 : α) n = 1
  | 0 => rfl
  | n + 1 => by rw [pw, one_pw n, one_mul]
theorem pw_mul (x : α) (a : Nat) : ∀ b, pw x (a * b) = pw (pw x a) b
  | 0 => rfl
  | b + 1 => by rw [Nat.mul_succ, pw_add, pw_mul x a b, pw]
end
end Go.Cu

/- Identities of commutative rings, by reflection. -/
namespace Go.Cu
open CR
set_option linter.unusedVariables false
set_option linter.unusedSimpArgs false
set_option linter.unusedSectionVars false
set_option linter.constructorNameAsVariable false

section
variable {α : Type} [CR α]
def nat : Nat → α
  | 0 => 0
  | n + 1 => nat n + 1
theorem nat_add (a : Nat) : ∀ b : Nat, (nat (a + b) : α) = nat a + nat b
  | 0 => by rw [Nat.add_zero, nat, add_zero']
  | b + 1 => by rw [← Nat.add_assoc, nat, nat, nat_add a b, add_assoc]
theorem nat_mul (a : Nat) : ∀ b : Nat, (nat (a * b) : α) = nat a * nat b
  | 0 => by rw [Nat.mul_zero, nat, mul_zero']
  | b + 1 => by rw [Nat.mul_succ, nat, nat_add, nat_mul a b, mul_add, mul_one']
def zval : Int → α
  | .ofNat n => nat n
  | .negSucc n => -nat (n + 1)
theorem add_right_cancel' {a b c : α} (h : a + c = b + c) : a = b := by
  rw [add_comm a, add_comm b] at h; exact add_left_cancel' h
theorem zval_sub (x y : Nat) : (zval ((x : Int) - y) : α) = nat x - nat y := by
  rcases Nat.le_total y x with h | h
  · obtain ⟨k, rfl⟩ : ∃ k, x = k + y := ⟨x - y, by omega⟩
    rw [show ((k + y : Nat) : Int) - y = ((k : Nat) : Int) by omega, nat_add, sub_eq, add_assoc, add_neg, add_zero']
    rfl
  · obtain ⟨k, rfl⟩ : ∃ k, y = k + x := ⟨y - x, by omega⟩
    cases k with
    | zero => rw [show (x : Int) - ((0 + x : Nat) : Int) = ((0 : Nat) : Int) by omega, Nat.zero_add, sub_eq, add_neg]; rfl
    | succ k =>
      rw [show (x : Int) - ((k + 1 + x : Nat) : Int) = Int.negSucc k by omega, nat_add (k + 1) x, sub_eq, neg_add_rev, add_comm (-nat (k + 1)), ← add_assoc, add_neg, zero_add]
      rfl
theorem int_split (a : Int) : ∃ x y : Nat, a = (x : Int) - y := ⟨a.toNat, (-a).toNat, by omega⟩
theorem zval_add (a b : Int) : (zval (a + b) : α) = zval a + zval b := by
  obtain ⟨x, y, rfl⟩ := int_split a
  obtain ⟨z, w, rfl⟩ := int_split b
  rw [show (x : Int) - y + ((z : Int) - w) = ((x + z : Nat) : Int) - ((y + w : Nat) : Int) by omega, zval_sub, zval_sub, zval_sub, nat_add, nat_add]
  simp only [sub_eq, neg_add_rev]
  rw [add_assoc, add_assoc, ← add_assoc (nat z), add_comm (nat z), add_assoc (-nat y)]
theorem zval_neg (a : Int) : (zval (-a) : α) = -zval a := by
  obtain ⟨x, y, rfl⟩ := int_split a
  rw [show -((x : Int) - y) = (y : Int) - x by omega, zval_sub, zval_sub, sub_eq, sub_eq, neg_add_rev, neg_neg', add_comm]
theorem mul_neg' (a b : α) : a * -b = -(a * b) := by rw [mul_comm, neg_mul', mul_comm]
theorem shuffle (p q r s : α) : p + q + (-r + -s) = p + -s + (-r + q) := by
  rw [add_assoc, add_assoc, add_comm q, add_assoc (-r), add_comm (-s) (-r + q), add_assoc (-r), add_comm (-s) q]
theorem zval_mul (a b : Int) : (zval (a * b) : α) = zval a * zval b := by
  obtain ⟨x, y, rfl⟩ := int_split a
  obtain ⟨z, w, rfl⟩ := int_split b
  have e : ((x : Int) - y) * ((z : Int) - w) = ((x * z + y * w : Nat) : Int) - ((x * w + y * z : Nat) : Int) := by
    simp only [Int.sub_mul, Int.mul_sub, Int.natCast_add, Int.natCast_mul]; omega
  rw [e, zval_sub, zval_sub, zval_sub, nat_add, nat_add, nat_mul, nat_mul, nat_mul, nat_mul]
  simp only [sub_eq, neg_add_rev, mul_add, add_mul', neg_mul', mul_neg', neg_neg']
  exact shuffle _ _ _ _

inductive RE where
  | var (i : Nat)
  | num (n : Int)
  | zero
  | one
  | add (a b : RE)
  | mul (a b : RE)
  | neg (a : RE)
  | sub (a b : RE)
def RE.val (v : Nat → α) : RE → α
  | .var i => v i
  | .num n => zval n
  | .zero => 0
  | .one => 1
  | .add a b => a.val v + b.val v
  | .mul a b => a.val v * b.val v
  | .neg a => - a.val v
  | .sub a b => a.val v - b.val v

abbrev Mono := List Nat
def mmul : Mono → Mono → Mono
  | [], b => b
  | x :: a, [] => x :: a
  | x :: a, y :: b => (x + y) :: mmul a b
def mval (v : Nat → α) : Nat → Mono → α
  | _, [] => 1
  | i, e :: m => pw (v i) e * mval v (i + 1) m
theorem mval_mul (v : Nat → α) : ∀ (a b : Mono) (i : Nat), mval v i (mmul a b) = mval v i a * mval v i b
  | [], b, i => by rw [mmul, mval, one_mul]
  | x :: a, [], i => by rw [mmul, mval, mval, mul_one']
  | x :: a, y :: b, i => by
    rw [mmul, mval, mval, mval, mval_mul v a b, pw_add, mul_assoc, mul_assoc, ← mul_assoc (pw (v i) y), mul_comm (pw (v i) y), mul_assoc (mval v (i + 1) a)]
/-- Lexicographic order. -/
def mcmp : Mono → Mono → Ordering
  | [], [] => .eq
  | [], _ :: _ => .lt
  | _ :: _, [] => .gt
  | x :: a, y :: b => match Nat.blt x y with
    | true => .lt
    | false => match Nat.beq x y with
      | true => mcmp a b
      | false => .gt
theorem mcmp_eq : ∀ {a b : Mono}, mcmp a b = .eq → a = b
  | [], [], _ => rfl
  | [], _ :: _, h => by simp [mcmp] at h
  | _ :: _, [], h => by simp [mcmp] at h
  | x :: a, y :: b, h => by
    unfold mcmp at h
    split at h
    · cases h
    · split at h
      · rename_i h1
        rw [Nat.eq_of_beq_eq_true h1, mcmp_eq h]
      · cases h
abbrev Poly := List (Int × Mono)
def pval (v : Nat → α) : Poly → α
  | [] => 0
  | (c, m) :: p => zval c * mval v 0 m + pval v p
def pcons (c : Int) (m : Mono) (p : Poly) : Poly := match c with
  | .ofNat 0 => p
  | c => (c, m) :: p
theorem zval_zero : (zval 0 : α) = 0 := rfl
theorem pval_cons (v : Nat → α) (c : Int) (m : Mono) (p : Poly) : pval v (pcons c m p) = zval c * mval v 0 m + pval v p := by
  unfold pcons
  split
  · rw [show (zval (Int.ofNat 0) : α) = 0 from rfl, zero_mul', zero_add]
  · rfl
def pmerge : Nat → Poly → Poly → Poly
  | 0, p, q => p ++ q
  | _ + 1, [], q => q
  | _ + 1, p, [] => p
  | n + 1, (c, m) :: p, (d, k) :: q => match mcmp m k with
    | .gt => (c, m) :: pmerge n p ((d, k) :: q)
    | .lt => (d, k) :: pmerge n ((c, m) :: p) q
    | .eq => pcons (c + d) m (pmerge n p q)
theorem pval_app (v : Nat → α) : ∀ p q : Poly, pval v (p ++ q) = pval v p + pval v q
  | [], q => by rw [List.nil_append, pval, zero_add]
  | (c, m) :: p, q => by rw [List.cons_append, pval, pval, pval_app v p q, add_assoc]
theorem add_swap (x y z : α) : x + (y + z) = y + (x + z) := by rw [← add_assoc, add_comm x, add_assoc]
theorem add_four (a b c d : α) : a + b + (c + d) = a + c + (b + d) := by rw [add_assoc, add_swap b, ← add_assoc]
theorem pval_merge (v : Nat → α) : ∀ (n : Nat) (p q : Poly), pval v (pmerge n p q) = pval v p + pval v q
  | 0, p, q => pval_app v p q
  | n + 1, [], q => by rw [pmerge, pval, zero_add]
  | n + 1, (c, m) :: p, [] => by rw [pmerge, pval, pval, add_zero']; simp
  | n + 1, (c, m) :: p, (d, k) :: q => by
    unfold pmerge
    split
    · simp only [pval, pval_merge v n, add_assoc]
    · simp only [pval, pval_merge v n]
      rw [add_swap]
    · rename_i h
      rw [pval_cons, pval_merge v n, mcmp_eq h, zval_add, add_mul', pval, pval]
      exact add_four _ _ _ _
def pscale (c : Int) (m : Mono) : Poly → Poly
  | [] => []
  | (d, k) :: p => (c * d, mmul m k) :: pscale c m p
theorem pval_scale (v : Nat → α) (c : Int) (m : Mono) : ∀ p : Poly, pval v (pscale c m p) = zval c * mval v 0 m * pval v p
  | [] => by rw [pscale, pval, mul_zero']
  | (d, k) :: p => by
    rw [pscale, pval, pval, pval_scale v c m p, zval_mul, mval_mul, mul_add, mul_assoc, mul_assoc, ← mul_assoc (zval d), mul_comm (zval d), mul_assoc (mval v 0 m)]
    simp only [mul_assoc]
def pmul' (q : Poly) : Poly → Poly
  | [] => []
  | (c, m) :: p => let x := pscale c m q; let y := pmul' q p; pmerge (x.length + y.length) x y
theorem pval_mul (v : Nat → α) (q : Poly) : ∀ p : Poly, pval v (pmul' q p) = pval v p * pval v q
  | [] => by rw [pmul', pval, zero_mul']
  | (c, m) :: p => by rw [pmul', pval, add_mul', pval_merge, pval_scale, pval_mul v q p]
def pneg' : Poly → Poly
  | [] => []
  | (c, m) :: p => (-c, m) :: pneg' p
theorem pval_neg (v : Nat → α) : ∀ p : Poly, pval v (pneg' p) = -pval v p
  | [] => by rw [pneg', pval, neg_zero']
  | (c, m) :: p => by rw [pneg', pval, pval, pval_neg v p, zval_neg, neg_add_rev, neg_mul']
def vmono : Nat → Mono
  | 0 => [1]
  | i + 1 => 0 :: vmono i
theorem mval_vmono (v : Nat → α) : ∀ (i j : Nat), mval v j (vmono i) = v (j + i)
  | 0, j => by rw [vmono, mval, mval, mul_one', pw, pw, one_mul]; rfl
  | i + 1, j => by rw [vmono, mval, pw, one_mul, mval_vmono v i, show j + 1 + i = j + (i + 1) by omega]
def norm : RE → Poly
  | .var i => [(1, vmono i)]
  | .num n => pcons n [] []
  | .zero => []
  | .one => [(1, [])]
  | .add a b => let x := norm a; let y := norm b; pmerge (x.length + y.length) x y
  | .mul a b => pmul' (norm b) (norm a)
  | .neg a => pneg' (norm a)
  | .sub a b => let x := norm a; let y := pneg' (norm b); pmerge (x.length + y.length) x y
theorem zval_one : (zval 1 : α) = 1 := by show nat 0 + 1 = (1 : α); rw [nat, zero_add]
theorem norm_ok (v : Nat → α) : ∀ e : RE, pval v (norm e) = e.val v
  | .var i => by rw [norm, pval, pval, mval_vmono, zval_one, one_mul, add_zero', Nat.zero_add]; rfl
  | .num n => by rw [norm, pval_cons, pval, mval, mul_one', add_zero']; rfl
  | .zero => rfl
  | .one => by rw [norm, pval, pval, mval, mul_one', add_zero', zval_one]; rfl
  | .add a b => by rw [norm, pval_merge, norm_ok v a, norm_ok v b]; rfl
  | .mul a b => by rw [norm, pval_mul, norm_ok v a, norm_ok v b]; rfl
  | .neg a => by rw [norm, pval_neg, norm_ok v a]; rfl
  | .sub a b => by rw [norm, pval_merge, pval_neg, norm_ok v a, norm_ok v b, ← sub_eq]; rfl
/-- The i-th of a list of variables. -/
def vget : Nat → List α → α
  | _, [] => 0
  | 0, x :: _ => x
  | i + 1, _ :: l => vget i l
theorem lz {c l r : α} (h : l = r) : c * (l - r) = 0 := by rw [h, sub_self', mul_zero']
theorem lz2 {x y : α} (h : x = 0) (h' : y = 0) : x + y = 0 := by rw [h, h', zero_add]
def isNil : Poly → Bool
  | [] => true
  | _ :: _ => false
/-- An identity, checked by its normal form. -/
theorem ring_id (v : Nat → α) (a b : RE) (h : isNil (norm (.sub a b)) = true) : a.val v = b.val v := by
  have h1 := norm_ok v (.sub a b)
  cases hn : norm (.sub a b) with
  | nil => rw [hn, pval] at h1; exact eq_of_sub h1.symm
  | cons x p => rw [hn] at h; cases h
end
end Go.Cu

/- Primes, and when a number is one. Conditions: none; plain arithmetic. -/
namespace Go.Cu
set_option linter.unusedVariables false
set_option linter.unusedSimpArgs false
set_option linter.unusedSectionVars false
set_option linter.constructorNameAsVariable false
def Prime (p : Nat) : Prop := 2 ≤ p ∧ ∀ d, d ∣ p → d = 1 ∨ d = p
theorem exists_prime : ∀ n : Nat, 2 ≤ n → ∃ p, Prime p ∧ p ∣ n := by
  intro n
  induction n using Nat.strongRecOn with
  | _ n ih =>
    intro h
    by_cases hp : Prime n
    · exact ⟨n, hp, Nat.dvd_refl n⟩
    · have : ∃ d, d ∣ n ∧ d ≠ 1 ∧ d ≠ n := by
        apply Classical.byContradiction
        intro hne
        exact hp ⟨h, fun d hd => Classical.byContradiction fun hh => hne ⟨d, hd, fun e => hh (.inl e), fun e => hh (.inr e)⟩⟩
      obtain ⟨d, hd, h1, h2⟩ := this
      have hle := Nat.le_of_dvd (by omega) hd
      have h0 : d ≠ 0 := by rintro rfl; rw [Nat.zero_dvd] at hd; omega
      obtain ⟨p, hp, hpd⟩ := ih d (by omega) (by omega)
      exact ⟨p, hp, Nat.dvd_trans hpd hd⟩
theorem Prime.gcd {p a : Nat} (hp : Prime p) (h : ¬ p ∣ a) : Nat.gcd p a = 1 := by
  rcases hp.2 _ (Nat.gcd_dvd_left p a) with h1 | h1
  · exact h1
  · exact absurd (h1 ▸ Nat.gcd_dvd_right p a) h
theorem Prime.dvd_mul {p a b : Nat} (hp : Prime p) (h : p ∣ a * b) : p ∣ a ∨ p ∣ b := by
  by_cases ha : p ∣ a
  · exact .inl ha
  · exact .inr (Nat.Coprime.dvd_of_dvd_mul_left (hp.gcd ha) h)
theorem bezout (a b : Nat) : ∃ x y : Int, (a : Int) * x + b * y = (Nat.gcd a b : Nat) := by
  induction a, b using Nat.gcd.induction with
  | H0 n => exact ⟨0, 1, by simp⟩
  | H1 m n hm ih =>
    obtain ⟨x, y, h⟩ := ih
    refine ⟨y - (n / m : Nat) * x, x, ?_⟩
    rw [Nat.gcd_rec, ← h]
    have e : (n : Int) = (m : Int) * (n / m : Nat) + (n % m : Nat) := by
      have := Nat.div_add_mod n m
      exact_mod_cast this.symm
    rw [Int.mul_sub]
    conv => lhs; rw [e]
    rw [Int.add_mul, Int.mul_assoc]
    omega
section
variable {p : Nat} [Pos p]
theorem Zp.inv_exists (hp : Prime p) {x : Zp p} (hx : x ≠ 0) : ∃ y : Zp p, x * y = 1 := by
  have h0 : x.val ≠ 0 := fun h => hx (Zp.ext (by rw [h, Zp.zero_val]))
  have hnd : ¬ p ∣ x.val := fun h => absurd (Nat.le_of_dvd (by omega) h) (by have := x.lt; omega)
  obtain ⟨u, v, h⟩ := bezout p x.val
  rw [hp.gcd hnd] at h
  refine ⟨Zp.of (v % p).toNat, Zp.ext ?_⟩
  have hpos : (0 : Int) < p := by have := hp.1; omega
  have e1 : ((v % p).toNat : Int) = v % p := Int.toNat_of_nonneg (Int.emod_nonneg _ (by omega))
  rw [Zp.mul_val, Zp.of_val, Nat.mul_mod_mod]
  show _ = 1 % p
  have : ((x.val * (v % p).toNat : Nat) : Int) % p = (1 : Int) % p := by
    rw [Int.natCast_mul, e1, Int.mul_emod, Int.emod_emod_of_dvd _ (Int.dvd_refl _), ← Int.mul_emod]
    have h2 : (x.val : Int) * v = 1 + p * (-u) := by rw [Int.mul_neg]; have := h; push_cast at this; omega
    rw [h2, Int.add_mul_emod_self_left]
  exact_mod_cast this
open CR
theorem Zp.mul_ne (hp : Prime p) {x y : Zp p} (hx : x ≠ 0) (hy : y ≠ 0) : x * y ≠ 0 := by
  intro h
  obtain ⟨u, hu⟩ := Zp.inv_exists hp hx
  refine hy ?_
  have : (x * u) * y = u * (x * y) := by rw [mul_comm x u, mul_assoc]
  rw [hu, one_mul, h, mul_zero'] at this
  exact this
def prodL (l : List (Zp p)) : Zp p := l.foldr (· * ·) 1
theorem prodL_perm {l l' : List (Zp p)} (h : l.Perm l') : prodL l = prodL l' := by
  induction h with
  | nil => rfl
  | cons x _ ih => show x * prodL _ = x * prodL _; rw [ih]
  | swap x y l => show y * (x * prodL l) = x * (y * prodL l); rw [← mul_assoc, mul_comm y, mul_assoc]
  | trans _ _ h1 h2 => exact h1.trans h2
theorem prodL_map (x : Zp p) : ∀ l : List (Zp p), prodL (l.map (x * ·)) = pw x l.length * prodL l
  | [] => by show (1 : Zp p) = 1 * 1; rw [one_mul]
  | y :: l => by
    show x * y * prodL (l.map (x * ·)) = pw x (l.length + 1) * (y * prodL l)
    rw [prodL_map x l, pw, mul_comm (pw x l.length) x, mul_assoc, mul_assoc, ← mul_assoc y, mul_comm y, mul_assoc]
theorem prodL_ne (hp : Prime p) (h1 : (1 : Zp p) ≠ 0) : ∀ l : List (Zp p), (∀ y ∈ l, y ≠ 0) → prodL l ≠ 0
  | [], _ => h1
  | y :: l, h => Zp.mul_ne hp (h y List.mem_cons_self) (prodL_ne hp h1 l fun z hz => h z (List.mem_cons_of_mem _ hz))
def allNz (p : Nat) [Pos p] : List (Zp p) := (List.range (p - 1)).map fun i => Zp.of (i + 1)
theorem one_ne (hp : Prime p) : (1 : Zp p) ≠ 0 := by
  intro h
  have h1 := congrArg Zp.val h
  rw [Zp.zero_val] at h1
  have h2 : (1 : Zp p).val = 1 % p := rfl
  rw [h2, Nat.mod_eq_of_lt hp.1] at h1
  cases h1
theorem mem_allNz {y : Zp p} : y ∈ allNz p ↔ y ≠ 0 := by
  unfold allNz
  rw [List.mem_map]
  constructor
  · rintro ⟨i, hi, rfl⟩ h
    have hi := List.mem_range.1 hi
    have h1 := congrArg Zp.val h
    rw [Zp.zero_val, Zp.of_val, Nat.mod_eq_of_lt (by omega)] at h1
    cases h1
  · intro h
    have h0 : y.val ≠ 0 := fun e => h (Zp.ext (by rw [e, Zp.zero_val]))
    refine ⟨y.val - 1, List.mem_range.2 (by have := y.lt; omega), Zp.ext ?_⟩
    rw [Zp.of_val, Nat.sub_add_cancel (by omega), Nat.mod_eq_of_lt y.lt]
theorem nodup_allNz (hp : Prime p) : (allNz p).Nodup := by
  unfold allNz
  rw [List.nodup_iff_pairwise_ne, List.pairwise_map]
  refine List.Pairwise.imp_of_mem ?_ (List.nodup_iff_pairwise_ne.1 List.nodup_range)
  intro a b ha hb hab he
  have ha := List.mem_range.1 ha
  have hb := List.mem_range.1 hb
  have h1 := congrArg Zp.val he
  rw [Zp.of_val, Zp.of_val, Nat.mod_eq_of_lt (by omega), Nat.mod_eq_of_lt (by omega)] at h1
  omega
/-- Fermat's little theorem. -/
theorem fermat (hp : Prime p) {x : Zp p} (hx : x ≠ 0) : pw x (p - 1) = 1 := by
  obtain ⟨u, hu⟩ := Zp.inv_exists hp hx
  have hinj : ∀ a b : Zp p, x * a = x * b → a = b := fun a b h => by
    have := congrArg (u * ·) h
    simp only [← mul_assoc, mul_comm u x, hu, one_mul] at this
    exact this
  have hnd : ((allNz p).map (x * ·)).Nodup := by
    rw [List.nodup_iff_pairwise_ne, List.pairwise_map]
    exact List.Pairwise.imp (fun h e => h (hinj _ _ e)) (List.nodup_iff_pairwise_ne.1 (nodup_allNz hp))
  have hperm : ((allNz p).map (x * ·)).Perm (allNz p) := by
    rw [List.perm_ext_iff_of_nodup hnd (nodup_allNz hp)]
    intro y
    rw [mem_allNz, List.mem_map]
    constructor
    · rintro ⟨z, hz, rfl⟩; exact Zp.mul_ne hp hx (mem_allNz.1 hz)
    · intro hy
      refine ⟨u * y, mem_allNz.2 fun h => hy ?_, by rw [← mul_assoc, hu, one_mul]⟩
      have : x * (u * y) = 0 := by rw [h, mul_zero']
      rwa [← mul_assoc, hu, one_mul] at this
  have h1 := prodL_perm hperm
  rw [prodL_map] at h1
  obtain ⟨w, hw⟩ := Zp.inv_exists hp (prodL_ne hp (one_ne hp) (allNz p) fun y hy => mem_allNz.1 hy)
  have h2 := congrArg (· * w) h1
  simp only [mul_assoc, hw, mul_one'] at h2
  rw [show (allNz p).length = p - 1 by simp [allNz]] at h2
  exact h2
end
end Go.Cu

/- math/bits' Add64, Sub64, Mul64, as steps of a walk that names sums and carries by what they satisfy. -/
namespace Go.Cu
open Go Go.Vm Go.RowKit Go.Proofs
attribute [local irreducible] W OpsW Det Fresh New Writes Vm.Pure Makes Changes ExternTo BuildTo ZeroTo FieldTo IndexTo BinTo SliceTo Vm.Enters

theorem mixed : Tryd.prog.follows .mixedOrders = true := by kernel_rfl

theorem run_Add64 (x y c : Nat) (hc : c ≤ 1) : ExternTo Tryd.prog 57 [u64 x, u64 y, u64 c]
    (.tuple #[u64 ((x + y + c) % 18446744073709551616), u64 ((x + y + c) / 18446744073709551616)]) := by
  refine ExternTo.of fun w => ?_
  unfold u64
  rw [run_callFunc_extern Tryd.func57 (by kernel_rfl) (by kernel_rfl) (by kernel_rfl) (e := add64Entry) (by kernel_rfl), run_add64 x y c (by omega) (by omega) (by omega) (by omega)]
  simp only [Result.andThen]
  congr 5 <;> omega
theorem run_Sub64 (x y b : Nat) (hb : b ≤ 1) : ExternTo Tryd.prog 79 [u64 x, u64 y, u64 b]
    (.tuple #[u64 ((x + 18446744073709551616 - y - b) % 18446744073709551616), u64 (if x < y + b then 1 else 0)]) := by
  refine ExternTo.of fun w => ?_
  unfold u64
  rw [run_callFunc_extern Tryd.func79 (by kernel_rfl) (by kernel_rfl) (by kernel_rfl) (e := sub64Entry) (by kernel_rfl), run_sub64 x y b hb]
  rfl

set_option maxHeartbeats 1000000 in
theorem mul64_ok (x y : Nat) (hx : x < 18446744073709551616) (hy : y < 18446744073709551616) (w : World) :
    Calls Tryd.prog 56 #[.int .u64 x, .int .u64 y] w fun e w' => e = .returned (.tuple #[.int .u64 ((x * y / 18446744073709551616 : Nat) : Int), .int .u64 ((x * y % 18446744073709551616 : Nat) : Int)]) ∧ w' = w := by
  obtain ⟨bd, bt, bw, hhi⟩ := Lib.mul64_hi x y hx hy
  have ba := Lib.half_mul_le (a := x / 4294967296) (b := y / 4294967296) (by omega) (by omega)
  have bb := Lib.half_mul_le (a := x / 4294967296) (b := y % 4294967296) (by omega) (by omega)
  have bc := Lib.half_mul_le (a := x % 4294967296) (b := y / 4294967296) (by omega) (by omega)
  have ba' : x / 4294967296 * (y / 4294967296) < 18446744073709551616 := by omega
  have bb' : x / 4294967296 * (y % 4294967296) < 18446744073709551616 := by omega
  have bc' : x % 4294967296 * (y / 4294967296) < 18446744073709551616 := by omega
  have bh1 : x / 4294967296 * (y / 4294967296) + (x / 4294967296 * (y % 4294967296) + x % 4294967296 * (y % 4294967296) / 4294967296) / 4294967296 < 18446744073709551616 := by omega
  have bh : x / 4294967296 * (y / 4294967296) + (x / 4294967296 * (y % 4294967296) + x % 4294967296 * (y % 4294967296) / 4294967296) / 4294967296 + ((x / 4294967296 * (y % 4294967296) + x % 4294967296 * (y % 4294967296) / 4294967296) % 4294967296 + x % 4294967296 * (y / 4294967296)) / 4294967296 < 18446744073709551616 := by omega
  go_enter Tryd.func56, Tryd.ntmps56
  go_wp2
  simp only [Mul64.maskN x hx, Mul64.maskN y hy, Mul64.divN, Mul64.mulN, Mul64.addN, Mul64.wrapN _ bd, Mul64.wrapN _ bb', Mul64.wrapN _ bt, Mul64.maskN _ bt, Mul64.wrapN _ bc', Mul64.wrapN _ bw, Mul64.wrapN _ ba', Mul64.wrapN _ bh1, Mul64.wrapN _ bh, Mul64.wrapM (x * y)]
  rw [hhi]
  go_ret2
  exact ⟨rfl, rfl⟩
theorem enMul64 : Vm.Enters Tryd.prog 56 := Vm.Enters.of fun _ _ => by kernel_rfl
theorem Mul64_ok {x y : Nat} {w : World} (hx : x < 18446744073709551616) (hy : y < 18446744073709551616) :
    Pure Tryd.prog 56 #[u64 x, u64 y] w (.tuple #[u64 (x * y / 18446744073709551616), u64 (x * y % 18446744073709551616)]) :=
  Pure.of ((mul64_ok x y hx hy w).mono fun _ _ ⟨h1, h2⟩ => ⟨h1, by subst h2; exact Below.refl _ _⟩)

section
variable {n : Nat} {K : List Nat} {G : Hp} {w0 : World} {ops : Array Oper} {rest : List Oper} {R : Fr → Hp → Prop} {F : Fr} {H : Hp} {d : Nat} {x y z : Operand} {ats : Array TypeId} {ty : TypeId} {pos : String} {after : Array Edge}

/-- s + 2^64 c = a + b + e. -/
theorem OpsW.add64 {a b e : Nat} (hx : ev F x = some (u64 a)) (hy : ev F y = some (u64 b)) (hz : ev F z = some (u64 e)) (ha : a < 18446744073709551616) (hb : b < 18446744073709551616) (he : e ≤ 1) (hd : Nat.blt d n = true)
    (h : ∀ s c, s + 18446744073709551616 * c = a + b + e → s < 18446744073709551616 → c ≤ 1 → OpsW Tryd.prog n K G w0 ops rest R ((d, .tuple #[u64 s, u64 c]) :: F) H) :
    OpsW Tryd.prog n K G w0 ops (⟨some d, .call { callee := .value (.func 57), args := #[x, y, z], argTypes := ats }, ty, pos, after, none⟩ :: rest) R F H := by
  have h1 : evs F [x, y, z] = some [u64 a, u64 b, u64 e] := by simp only [evs, hx, hy, hz]
  have h2 := h ((a + b + e) % 18446744073709551616) ((a + b + e) / 18446744073709551616) (by omega) (by omega) (by omega)
  have h4 := run_Add64 a b e he
  generalize (Value.tuple #[u64 ((a + b + e) % 18446744073709551616), u64 ((a + b + e) / 18446744073709551616)]) = v at h2 h4
  exact OpsW.det (det_extern (xs := [x, y, z]) h1 h4) hd h2
/-- s + b + e = a + 2^64 c. -/
theorem OpsW.sub64 {a b e : Nat} (hx : ev F x = some (u64 a)) (hy : ev F y = some (u64 b)) (hz : ev F z = some (u64 e)) (ha : a < 18446744073709551616) (hb : b < 18446744073709551616) (he : e ≤ 1) (hd : Nat.blt d n = true)
    (h : ∀ s c, s + b + e = a + 18446744073709551616 * c → s < 18446744073709551616 → c ≤ 1 → OpsW Tryd.prog n K G w0 ops rest R ((d, .tuple #[u64 s, u64 c]) :: F) H) :
    OpsW Tryd.prog n K G w0 ops (⟨some d, .call { callee := .value (.func 79), args := #[x, y, z], argTypes := ats }, ty, pos, after, none⟩ :: rest) R F H := by
  have h1 : evs F [x, y, z] = some [u64 a, u64 b, u64 e] := by simp only [evs, hx, hy, hz]
  have h2 := h ((a + 18446744073709551616 - b - e) % 18446744073709551616) (if a < b + e then 1 else 0) (by split <;> omega) (by omega) (by split <;> omega)
  have h4 := run_Sub64 a b e he
  generalize (Value.tuple #[u64 ((a + 18446744073709551616 - b - e) % 18446744073709551616), u64 (if a < b + e then 1 else 0)]) = v at h2 h4
  exact OpsW.det (det_extern (xs := [x, y, z]) h1 h4) hd h2
theorem mul_top {a b : Nat} (ha : a < 18446744073709551616) (hb : b < 18446744073709551616) : a * b ≤ 340282366920938463426481119284349108225 := by
  have := Nat.mul_le_mul (Nat.le_sub_one_of_lt ha) (Nat.le_sub_one_of_lt hb)
  simpa using this
/-- lo + 2^64 hi = a b. -/
theorem OpsW.mul64 {a b : Nat} (hx : ev F x = some (u64 a)) (hy : ev F y = some (u64 b)) (ha : a < 18446744073709551616) (hb : b < 18446744073709551616) (hd : Nat.blt d n = true)
    (h : ∀ hi lo, lo + 18446744073709551616 * hi = a * b → lo < 18446744073709551616 → hi ≤ 18446744073709551614 → OpsW Tryd.prog n K G w0 ops rest R ((d, .tuple #[u64 hi, u64 lo]) :: F) H) :
    OpsW Tryd.prog n K G w0 ops (⟨some d, .call { callee := .value (.func 56), args := #[x, y], argTypes := ats }, ty, pos, after, none⟩ :: rest) R F H := by
  have h1 : evs F [x, y] = some [u64 a, u64 b] := by simp only [evs, hx, hy]
  have h2 := h (a * b / 18446744073709551616) (a * b % 18446744073709551616) (by omega) (by omega) (by have := mul_top ha hb; omega)
  have h4 : ∀ w, Pure _ _ _ w _ := fun w => Mul64_ok (w := w) ha hb
  generalize (Value.tuple #[u64 (a * b / 18446744073709551616), u64 (a * b % 18446744073709551616)]) = v at h2 h4
  exact OpsW.det (det_call (xs := [x, y]) enMul64 h1 fun w _ _ => h4 w) hd h2
variable {xt yt : TypeId}
/-- A sum that does not wrap. -/
theorem OpsW.addw {a b : Nat} (hx : ev F x = some (u64 a)) (hy : ev F y = some (u64 b)) (hlt : a + b < 18446744073709551616) (hd : Nat.blt d n = true)
    (h : ∀ s, s = a + b → OpsW Tryd.prog n K G w0 ops rest R ((d, u64 s) :: F) H) :
    OpsW Tryd.prog n K G w0 ops (⟨some d, .binOp .add xt x y yt, ty, pos, after, none⟩ :: rest) R F H := by
  refine OpsW.det (v := u64 (a + b)) ?_ hd (h _ rfl)
  have := det_add (P := Tryd.prog) (K := K) (G := G) (w0 := w0) (d := some d) (ty := ty) (pos := pos) (after := after) (g := none) (F := F) (H := H) (xt := xt) (yt := yt) hx hy
  rwa [show IntKind.u64.wrap ((a : Int) + (b : Int)) = ((a + b : Nat) : Int) from by rw [Mul64.addN, Mul64.wrapN _ hlt]] at this
/-- A product of words, wrapped. -/
theorem OpsW.mulw {a b : Nat} (hx : ev F x = some (u64 a)) (hy : ev F y = some (u64 b)) (hd : Nat.blt d n = true)
    (h : ∀ s, s = a * b % 18446744073709551616 → s < 18446744073709551616 → OpsW Tryd.prog n K G w0 ops rest R ((d, u64 s) :: F) H) :
    OpsW Tryd.prog n K G w0 ops (⟨some d, .binOp .mul xt x y yt, ty, pos, after, none⟩ :: rest) R F H := by
  refine OpsW.det (v := u64 (a * b % 18446744073709551616)) ?_ hd (h _ rfl (by omega))
  have := det_mul (P := Tryd.prog) (K := K) (G := G) (w0 := w0) (d := some d) (ty := ty) (pos := pos) (after := after) (g := none) (F := F) (H := H) (xt := xt) (yt := yt) hx hy
  rwa [show IntKind.u64.wrap ((a : Int) * (b : Int)) = ((a * b % 18446744073709551616 : Nat) : Int) from by rw [Mul64.mulN, Mul64.wrapM]] at this
/-- A test of a word against a number. -/
theorem det_eqw {a b : Nat} (hx : ev F x = some (u64 a)) (hy : ev F y = some (u64 b)) {dd : Option Tmp} {g : Option (Nat × Bool)} : Det Tryd.prog K G w0 ⟨dd, .binOp .eql xt x y yt, ty, pos, after, g⟩ F H (.bool (a == b)) := by
  have := det_eql (P := Tryd.prog) (K := K) (G := G) (w0 := w0) (d := dd) (ty := ty) (pos := pos) (after := after) (g := g) (F := F) (H := H) (xt := xt) (yt := yt) hx hy
  rwa [show (((a : Int) == (b : Int)) : Bool) = (a == b) from by rw [Bool.eq_iff_iff]; simp; omega] at this
end
end Go.Cu

/- Montgomery's product: what the columns add up to. Conditions: none; plain arithmetic. -/
namespace Go.Cu
open Go Go.Vm
theorem prod_top {a b : Nat} (ha : a < 18446744073709551616) (hb : b < 18446744073709551616) : a * b ≤ 340282366920938463426481119284349108225 := by
  have := Nat.mul_le_mul (Nat.le_sub_one_of_lt ha) (Nat.le_sub_one_of_lt hb)
  simpa using this
theorem col0 {p lo hi s c w t : Nat} (e1 : lo + 18446744073709551616 * hi = p) (e2 : s + 18446744073709551616 * c = lo + t + 0) (e3 : w = hi + c) : s + 18446744073709551616 * w = p + t := by omega
theorem colz {p lo hi s c w t : Nat} (e1 : lo + 18446744073709551616 * hi = p) (e2 : s + 18446744073709551616 * c = lo + t + 0) (e3 : w = hi + c) (hz : s = 0) : 18446744073709551616 * w = p + t := by omega
theorem col {p lo hi ca s1 c1 w1 t s2 c2 w2 : Nat} (e1 : lo + 18446744073709551616 * hi = p) (e2 : s1 + 18446744073709551616 * c1 = lo + ca + 0) (e3 : w1 = hi + c1) (e4 : s2 + 18446744073709551616 * c2 = s1 + t + 0) (e5 : w2 = w1 + c2) :
    s2 + 18446744073709551616 * w2 = p + ca + t := by omega
theorem hi_lt {hi c : Nat} (h1 : hi ≤ 18446744073709551614) (h2 : c ≤ 1) : hi + c < 18446744073709551616 := by omega
theorem w_lt {hi c w : Nat} (h1 : hi ≤ 18446744073709551614) (h2 : c ≤ 1) (h3 : w = hi + c) : w < 18446744073709551616 := by omega
theorem col_lt {x y lo hi ca s1 c1 w1 t s2 c2 : Nat} (hx : x < 18446744073709551616) (hy : y < 18446744073709551616) (hca : ca < 18446744073709551616) (ht : t < 18446744073709551616) (e1 : lo + 18446744073709551616 * hi = x * y)
    (e2 : s1 + 18446744073709551616 * c1 = lo + ca + 0) (e3 : w1 = hi + c1) (e4 : s2 + 18446744073709551616 * c2 = s1 + t + 0) : w1 + c2 < 18446744073709551616 := by
  have := prod_top hx hy
  omega
theorem inv_step {p X Y M T T' i m : Nat} (hI : T * 18446744073709551616 ^ i = X * (Y % 18446744073709551616 ^ i) + M * p) (hs : 18446744073709551616 * T' = T + X * lim Y i + m * p) :
    T' * 18446744073709551616 ^ (i + 1) = X * (Y % 18446744073709551616 ^ (i + 1)) + (M + m * 18446744073709551616 ^ i) * p := by
  have h1 : Y % 18446744073709551616 ^ (i + 1) = Y % 18446744073709551616 ^ i + 18446744073709551616 ^ i * lim Y i := by
    rw [Nat.pow_succ, Nat.mod_mul]; rfl
  have h2 : T' * 18446744073709551616 ^ (i + 1) = (18446744073709551616 * T') * 18446744073709551616 ^ i := by
    rw [Nat.pow_succ]; ac_rfl
  rw [h2, hs, h1, Nat.add_mul, Nat.add_mul, hI, Nat.mul_add, Nat.add_mul, Nat.mul_assoc X, Nat.mul_comm (lim Y i), Nat.mul_assoc m, Nat.mul_comm p, ← Nat.mul_assoc m]
  omega
theorem inv_lt {M m i : Nat} (h1 : M < 18446744073709551616 ^ i) (h2 : m < 18446744073709551616) : M + m * 18446744073709551616 ^ i < 18446744073709551616 ^ (i + 1) := by
  have : (m + 1) * 18446744073709551616 ^ i ≤ 18446744073709551616 * 18446744073709551616 ^ i := Nat.mul_le_mul_right _ h2
  rw [Nat.pow_succ, Nat.mul_comm _ 18446744073709551616]
  rw [Nat.add_mul] at this
  omega
theorem inv_top {p X Y M T i : Nat} (hI : T * 18446744073709551616 ^ i = X * (Y % 18446744073709551616 ^ i) + M * p) (hM : M < 18446744073709551616 ^ i) (hX : X < p) : T < 2 * p := by
  have h0 : 0 < 18446744073709551616 ^ i := Nat.pow_pos (by decide)
  have h1 : X * (Y % 18446744073709551616 ^ i) ≤ p * 18446744073709551616 ^ i := Nat.mul_le_mul (Nat.le_of_lt hX) (Nat.le_of_lt (Nat.mod_lt _ h0))
  have h2 : M * p < p * 18446744073709551616 ^ i := by rw [Nat.mul_comm p]; exact Nat.mul_lt_mul_of_pos_right hM (by omega)
  have h3 : T * 18446744073709551616 ^ i < (2 * p) * 18446744073709551616 ^ i := by rw [Nat.mul_assoc]; omega
  exact Nat.lt_of_mul_lt_mul_right h3
/-- pp: n0. -/
theorem zero_pp {m s lo hi s' c : Nat} (hm : m = s * 9940570264628428797 % 18446744073709551616) (e1 : lo + 18446744073709551616 * hi = m * 13402431016077863595) (e2 : s' + 18446744073709551616 * c = lo + s + 0) (hs : s' < 18446744073709551616) : s' = 0 := by
  have := Nat.div_add_mod (s * 9940570264628428797) 18446744073709551616
  omega
theorem sum_pp {x0 x1 x2 x3 x4 x5 y m t0 t1 t2 t3 t4 t5 a0 a1 a2 a3 a4 a5 g0 g1 g2 g3 g4 g5 f0 f1 f2 f3 f4 f5 w0 w1 w2 w3 w4 u : Nat} (E0 : a0 + 18446744073709551616 * g0 = x0 * y + t0) (E1 : a1 + 18446744073709551616 * g1 = x1 * y + g0 + t1) (E2 : a2 + 18446744073709551616 * g2 = x2 * y + g1 + t2) (E3 : a3 + 18446744073709551616 * g3 = x3 * y + g2 + t3) (E4 : a4 + 18446744073709551616 * g4 = x4 * y + g3 + t4) (E5 : a5 + 18446744073709551616 * g5 = x5 * y + g4 + t5) (F0 : 18446744073709551616 * f0 = m * 13402431016077863595 + a0) (F1 : w0 + 18446744073709551616 * f1 = m * 2210141511517208575 + f0 + a1) (F2 : w1 + 18446744073709551616 * f2 = m * 7435674573564081700 + f1 + a2) (F3 : w2 + 18446744073709551616 * f3 = m * 7239337960414712511 + f2 + a3) (F4 : w3 + 18446744073709551616 * f4 = m * 5412103778470702295 + f3 + a4) (F5 : w4 + 18446744073709551616 * f5 = m * 1873798617647539866 + f4 + a5) (hu : u = g5 + f5) :
    18446744073709551616 * val6 w0 w1 w2 w3 w4 u = val6 t0 t1 t2 t3 t4 t5 + val6 x0 x1 x2 x3 x4 x5 * y + m * pp := by
  have hm : val6 x0 x1 x2 x3 x4 x5 * y = val6 (x0 * y) (x1 * y) (x2 * y) (x3 * y) (x4 * y) (x5 * y) := by unfold val6; simp only [Nat.add_mul, Nat.mul_assoc]
  rw [hm]
  unfold val6 pp
  omega
theorem top_pp {x0 x1 x2 x3 x4 x5 y m t0 t1 t2 t3 t4 t5 a0 a1 a2 a3 a4 a5 g0 g1 g2 g3 g4 g5 f0 f1 f2 f3 f4 f5 w0 w1 w2 w3 w4 : Nat} (E0 : a0 + 18446744073709551616 * g0 = x0 * y + t0) (E1 : a1 + 18446744073709551616 * g1 = x1 * y + g0 + t1) (E2 : a2 + 18446744073709551616 * g2 = x2 * y + g1 + t2) (E3 : a3 + 18446744073709551616 * g3 = x3 * y + g2 + t3) (E4 : a4 + 18446744073709551616 * g4 = x4 * y + g3 + t4) (E5 : a5 + 18446744073709551616 * g5 = x5 * y + g4 + t5) (F0 : 18446744073709551616 * f0 = m * 13402431016077863595 + a0) (F1 : w0 + 18446744073709551616 * f1 = m * 2210141511517208575 + f0 + a1) (F2 : w1 + 18446744073709551616 * f2 = m * 7435674573564081700 + f1 + a2) (F3 : w2 + 18446744073709551616 * f3 = m * 7239337960414712511 + f2 + a3) (F4 : w3 + 18446744073709551616 * f4 = m * 5412103778470702295 + f3 + a4) (F5 : w4 + 18446744073709551616 * f5 = m * 1873798617647539866 + f4 + a5) (hT : val6 t0 t1 t2 t3 t4 t5 < 2 * pp) (hX : val6 x0 x1 x2 x3 x4 x5 < pp) (hy : y < 18446744073709551616) (hm : m < 18446744073709551616) : g5 + f5 < 18446744073709551616 := by
  have h := sum_pp E0 E1 E2 E3 E4 E5 F0 F1 F2 F3 F4 F5 rfl
  have h1 : val6 x0 x1 x2 x3 x4 x5 * y ≤ pp * 18446744073709551615 := Nat.mul_le_mul (Nat.le_of_lt hX) (by omega)
  have h2 : val6 w0 w1 w2 w3 w4 (g5 + f5) < 2 * pp := by
    generalize val6 x0 x1 x2 x3 x4 x5 * y = z at h h1
    generalize val6 w0 w1 w2 w3 w4 (g5 + f5) = v at h ⊢
    generalize val6 t0 t1 t2 t3 t4 t5 = T at h hT
    unfold pp at *
    omega
  clear h h1 E0 F0 E1 F1 E2 F2 E3 F3 E4 F4 E5 F5
  unfold val6 pp at h2
  omega
def inv_pp : Nat := 3231460744492646417066832100176244795738767926513225105051837195607029917124509527734802654356338138714468589979680
theorem end_pp {X Y M T : Nat} (hI : T * 18446744073709551616 ^ 6 = X * (Y % 18446744073709551616 ^ 6) + M * pp) (hY : Y < pp) : T % pp = X * Y * inv_pp % pp := by
  rw [Nat.mod_eq_of_lt (show Y < 18446744073709551616 ^ 6 from Nat.lt_trans hY (by unfold pp; decide))] at hI
  have h1 : T * (18446744073709551616 ^ 6 * inv_pp) = X * Y * inv_pp + pp * (M * inv_pp) := by
    rw [← Nat.mul_assoc, hI, Nat.add_mul, Nat.mul_comm M, Nat.mul_assoc pp M]
  have h2 := congrArg (· % pp) h1
  simp only [Nat.add_mul_mod_self_left] at h2
  rw [← h2, Nat.mul_mod, show 18446744073709551616 ^ 6 * inv_pp % pp = 1 from by decide +kernel, Nat.mul_one, Nat.mod_mod]
/-- rr: n0. -/
theorem zero_rr {m s lo hi s' c : Nat} (hm : m = s * 18446744069414584319 % 18446744073709551616) (e1 : lo + 18446744073709551616 * hi = m * 18446744069414584321) (e2 : s' + 18446744073709551616 * c = lo + s + 0) (hs : s' < 18446744073709551616) : s' = 0 := by
  have := Nat.div_add_mod (s * 18446744069414584319) 18446744073709551616
  omega
theorem sum_rr {x0 x1 x2 x3 y m t0 t1 t2 t3 a0 a1 a2 a3 g0 g1 g2 g3 f0 f1 f2 f3 w0 w1 w2 u : Nat} (E0 : a0 + 18446744073709551616 * g0 = x0 * y + t0) (E1 : a1 + 18446744073709551616 * g1 = x1 * y + g0 + t1) (E2 : a2 + 18446744073709551616 * g2 = x2 * y + g1 + t2) (E3 : a3 + 18446744073709551616 * g3 = x3 * y + g2 + t3) (F0 : 18446744073709551616 * f0 = m * 18446744069414584321 + a0) (F1 : w0 + 18446744073709551616 * f1 = m * 6034159408538082302 + f0 + a1) (F2 : w1 + 18446744073709551616 * f2 = m * 3691218898639771653 + f1 + a2) (F3 : w2 + 18446744073709551616 * f3 = m * 8353516859464449352 + f2 + a3) (hu : u = g3 + f3) :
    18446744073709551616 * val4 w0 w1 w2 u = val4 t0 t1 t2 t3 + val4 x0 x1 x2 x3 * y + m * rr := by
  have hm : val4 x0 x1 x2 x3 * y = val4 (x0 * y) (x1 * y) (x2 * y) (x3 * y) := by unfold val4; simp only [Nat.add_mul, Nat.mul_assoc]
  rw [hm]
  unfold val4 rr
  omega
theorem top_rr {x0 x1 x2 x3 y m t0 t1 t2 t3 a0 a1 a2 a3 g0 g1 g2 g3 f0 f1 f2 f3 w0 w1 w2 : Nat} (E0 : a0 + 18446744073709551616 * g0 = x0 * y + t0) (E1 : a1 + 18446744073709551616 * g1 = x1 * y + g0 + t1) (E2 : a2 + 18446744073709551616 * g2 = x2 * y + g1 + t2) (E3 : a3 + 18446744073709551616 * g3 = x3 * y + g2 + t3) (F0 : 18446744073709551616 * f0 = m * 18446744069414584321 + a0) (F1 : w0 + 18446744073709551616 * f1 = m * 6034159408538082302 + f0 + a1) (F2 : w1 + 18446744073709551616 * f2 = m * 3691218898639771653 + f1 + a2) (F3 : w2 + 18446744073709551616 * f3 = m * 8353516859464449352 + f2 + a3) (hT : val4 t0 t1 t2 t3 < 2 * rr) (hX : val4 x0 x1 x2 x3 < rr) (hy : y < 18446744073709551616) (hm : m < 18446744073709551616) : g3 + f3 < 18446744073709551616 := by
  have h := sum_rr E0 E1 E2 E3 F0 F1 F2 F3 rfl
  have h1 : val4 x0 x1 x2 x3 * y ≤ rr * 18446744073709551615 := Nat.mul_le_mul (Nat.le_of_lt hX) (by omega)
  have h2 : val4 w0 w1 w2 (g3 + f3) < 2 * rr := by
    generalize val4 x0 x1 x2 x3 * y = z at h h1
    generalize val4 w0 w1 w2 (g3 + f3) = v at h ⊢
    generalize val4 t0 t1 t2 t3 = T at h hT
    unfold rr at *
    omega
  clear h h1 E0 F0 E1 F1 E2 F2 E3 F3
  unfold val4 rr at h2
  omega
def inv_rr : Nat := 12549076656233958353659347336803947287922716146853412054870763148006372261952
theorem end_rr {X Y M T : Nat} (hI : T * 18446744073709551616 ^ 4 = X * (Y % 18446744073709551616 ^ 4) + M * rr) (hY : Y < rr) : T % rr = X * Y * inv_rr % rr := by
  rw [Nat.mod_eq_of_lt (show Y < 18446744073709551616 ^ 4 from Nat.lt_trans hY (by unfold rr; decide))] at hI
  have h1 : T * (18446744073709551616 ^ 4 * inv_rr) = X * Y * inv_rr + rr * (M * inv_rr) := by
    rw [← Nat.mul_assoc, hI, Nat.add_mul, Nat.mul_comm M, Nat.mul_assoc rr M]
  have h2 := congrArg (· % rr) h1
  simp only [Nat.add_mul_mod_self_left] at h2
  rw [← h2, Nat.mul_mod, show 18446744073709551616 ^ 4 * inv_rr % rr = 1 from by decide +kernel, Nat.mul_one, Nat.mod_mod]
theorem mont_mul (x y : Fq) : mont x * mont y * inv_pp % pp = mont (x * y) := by
  unfold mont
  rw [Zp.mul_val, Nat.mul_mod, ← Nat.mul_mod (x.val * R6), ← Nat.mul_mod, Nat.mod_mul_mod,
    show x.val * R6 * (y.val * R6) * inv_pp = x.val * y.val * R6 * (R6 * inv_pp) from by ac_rfl, Nat.mul_mod, show R6 * inv_pp % pp = 1 from by decide +kernel, Nat.mul_one, Nat.mod_mod]
theorem mont_add (x y : Fq) : (mont x + mont y) % pp = mont (x + y) := by
  unfold mont
  rw [Zp.add_val, ← Nat.add_mod, ← Nat.add_mul, Nat.mod_mul_mod]
theorem mont_sub (x y : Fq) : (mont x + (pp - mont y)) % pp = mont (x - y) := by
  unfold mont
  rw [Zp.sub_val, Nat.mod_mul_mod]
  have h1 := Nat.mod_lt (y.val * R6) pp_pos
  have h2 := Nat.div_add_mod (y.val * R6) pp
  have hy := y.lt
  have h3 : (x.val + (pp - y.val)) * R6 + pp * (y.val * R6 / pp) = (x.val * R6 + (pp - y.val * R6 % pp)) + pp * (R6 - 1) := by
    have : (pp - y.val) * R6 + y.val * R6 = pp * R6 := by rw [← Nat.add_mul, Nat.sub_add_cancel (Nat.le_of_lt hy)]
    have h5 : pp * R6 = pp * (R6 - 1) + pp := by rw [← Nat.mul_succ]; rfl
    rw [Nat.add_mul]
    generalize pp * (R6 - 1) = z at *
    omega
  have h4 := congrArg (· % pp) h3
  simp only [Nat.add_mul_mod_self_left] at h4
  rw [h4, Nat.add_mod, Nat.mod_mod, ← Nat.add_mod]
end Go.Cu

/- The first group's field: sums, differences, products: the walks. Conditions: numbers below the modulus. -/
namespace Go.Cu
open Go Go.Vm Go.RowKit Go.Proofs 
attribute [local irreducible] W OpsW Det Fresh New Writes Vm.Pure Makes Changes ExternTo BuildTo ZeroTo FieldTo IndexTo BinTo SliceTo Vm.Enters
set_option linter.unusedVariables false
set_option linter.unusedSimpArgs false
variable {T : Nat → TypeId × Nat × Nat}

theorem val6_lt {a b c d e f : Nat} (h0 : a < 18446744073709551616) (h1 : b < 18446744073709551616) (h2 : c < 18446744073709551616) (h3 : d < 18446744073709551616) (h4 : e < 18446744073709551616) (h5 : f < 18446744073709551616) : val6 a b c d e f < R6 := by
  unfold val6 R6; omega
abbrev glo1 : List Value := [u64 17644856173732828998, u64 754043588434789617, u64 10224657059481499349, u64 7488229067341005760, u64 11130996698012816685, u64 1267921511277847466]
abbrev glo2 : List Value := [u64 13402431016077863595, u64 2210141511517208575, u64 7435674573564081700, u64 7239337960414712511, u64 5412103778470702295, u64 1873798617647539866]
abbrev glo0 : List Value := [u64 14526898881837571181, u64 3129137299524312099, u64 419701826671360399, u64 524908885293268753]
abbrev glo3 : List Value := [u64 18446744069414584321, u64 6034159408538082302, u64 3691218898639771653, u64 8353516859464449352]
abbrev GH (T : Nat → TypeId × Nat × Nat) : Hp := [(0, .cells glo1.toArray (T 1).1 (T 1).2), (1, .cells glo2.toArray (T 2).1 (T 2).2), (2, .cells glo0.toArray (T 0).1 (T 0).2), (3, .cells glo3.toArray (T 3).1 (T 3).2)]
theorem step_lt {n i : Nat} (h : i < n) : n - (i + 1) < n - i := by omega
theorem idx_ok {n i : Nat} (h : i < n) (hn : n ≤ 9223372036854775807) : i + 1 ≤ 9223372036854775807 := by omega
theorem lo_mod {v : Nat} (h : v < pp) : v % pp = v := Nat.mod_eq_of_lt h
theorem hi_mod {v : Nat} (h : pp ≤ v) (h2 : v < 2 * pp) : v % pp = v - pp := by
  rw [Nat.mod_eq_sub_mod h, Nat.mod_eq_of_lt (by omega)]

theorem bld27 {v0 v1 v2 v3 v4 v5 : Int} : BuildTo Tryd.prog 27 [(0, .int .u64 v0), (1, .int .u64 v1), (2, .int .u64 v2), (3, .int .u64 v3), (4, .int .u64 v4), (5, .int .u64 v5)] (.agg #[.int .u64 v0, .int .u64 v1, .int .u64 v2, .int .u64 v3, .int .u64 v4, .int .u64 v5]) := BuildTo.of fun _ => by kernel_rfl
theorem bld29 {v0 v1 v2 v3 v4 v5 : Int} : BuildTo Tryd.prog 29 [(0, (.agg #[.int .u64 v0, .int .u64 v1, .int .u64 v2, .int .u64 v3, .int .u64 v4, .int .u64 v5]))] (.agg #[.int .u64 v0, .int .u64 v1, .int .u64 v2, .int .u64 v3, .int .u64 v4, .int .u64 v5]) := BuildTo.of fun _ => by kernel_rfl
theorem en58 : Vm.Enters Tryd.prog 58 := Vm.Enters.of fun _ _ => by kernel_rfl
theorem fl29_0 : TyF Tryd.prog 29 0 0 6 := ⟨⟨27, by kernel_rfl, by kernel_rfl⟩, by decide⟩
theorem sz26 : sizeIn Tryd.prog 26 = some 1 := by kernel_rfl
theorem sz27 : sizeIn Tryd.prog 27 = some 6 := by kernel_rfl
theorem sz29 : sizeIn Tryd.prog 29 = some 6 := by kernel_rfl
theorem ty26 : TyC Tryd.prog 26 := ⟨by kernel_rfl, by kernel_rfl⟩
theorem ty27 : TyA Tryd.prog 27 6 := ⟨by kernel_rfl, by kernel_rfl⟩
theorem ty29 : TyA Tryd.prog 29 6 := ⟨by kernel_rfl, by kernel_rfl⟩
theorem u27 : Tryd.prog.underlying 27 = some (.array 6 26) := by kernel_rfl
theorem z27 : TyZ Tryd.prog 27 (.agg #[.int .u64 0, .int .u64 0, .int .u64 0, .int .u64 0, .int .u64 0, .int .u64 0]) [.int .u64 0, .int .u64 0, .int .u64 0, .int .u64 0, .int .u64 0, .int .u64 0] := ⟨fun _ => by kernel_rfl, by kernel_rfl⟩
theorem z29 : TyZ Tryd.prog 29 (.agg #[.int .u64 0, .int .u64 0, .int .u64 0, .int .u64 0, .int .u64 0, .int .u64 0]) [.int .u64 0, .int .u64 0, .int .u64 0, .int .u64 0, .int .u64 0, .int .u64 0] := ⟨fun _ => by kernel_rfl, by kernel_rfl⟩
theorem reduce_ok {a0 a1 a2 a3 a4 a5 : Nat} (h0 : a0 < 18446744073709551616) (h1 : a1 < 18446744073709551616) (h2 : a2 < 18446744073709551616) (h3 : a3 < 18446744073709551616) (h4 : a4 < 18446744073709551616) (h5 : a5 < 18446744073709551616) (hV : val6 a0 a1 a2 a3 a4 a5 < 2 * pp) {w : World} (hG : Blocks (GH T) w)  : Vm.Pure Tryd.prog 58 #[.agg #[u64 a0, u64 a1, u64 a2, u64 a3, u64 a4, u64 a5], u64 0] w (enc6 (val6 a0 a1 a2 a3 a4 a5 % pp)) := by
  refine pure_of_W (n := 67) (args := [.agg #[u64 a0, u64 a1, u64 a2, u64 a3, u64 a4, u64 a5], u64 0]) Tryd.func58 rfl Tryd.ntmps58 (Nat.le_of_ble_eq_true rfl) hG ?_
  refine sStart ?_
  refine sSeq ?_
  refine W.region ?_
  refine OpsW.fresh (fr_box rfl rfl) rfl fun b2 => ?_
  refine OpsW.fresh (fr_alloc z27) rfl fun b4 => ?_
  refine sNext ?_
  refine W.keep (F' := [(4, _), (2, _), (1, _)]) ⟨rfl, rfl, rfl, trivial⟩ ?_
  refine sSeq ?_
  refine W.region ?_
  refine OpsW.det (det_indexAddr_arr u27 sz26 rfl rfl ⟨by decide, by decide⟩) rfl ?_
  refine OpsW.det (det_loadC ty26 rfl (List.Mem.tail _ (List.Mem.head _)) rfl) rfl ?_
  refine OpsW.sub64 (b := 13402431016077863595) (e := 0) rfl rfl rfl (by first | assumption | exact lim_lt _ _ | decide) (by first | assumption | exact lim_lt _ _ | decide) (by first | assumption | decide) rfl fun s15 c15 he15 hs15 hk15 => ?_
  refine OpsW.det (det_move rfl) rfl ?_
  refine OpsW.det (det_extract rfl rfl) rfl ?_
  refine OpsW.det (det_extract rfl rfl) rfl ?_
  refine OpsW.det (det_assign rfl) rfl ?_
  refine OpsW.det (det_assign rfl) rfl ?_
  refine sNext ?_
  refine W.keep (F' := [(6, _), (5, _), (4, _), (2, _), (1, _)]) ⟨rfl, rfl, rfl, rfl, rfl, trivial⟩ ?_
  refine sSeq ?_
  refine W.region ?_
  refine OpsW.det (det_indexAddr_arr u27 sz26 rfl rfl ⟨by decide, by decide⟩) rfl ?_
  refine OpsW.det (det_loadC ty26 rfl (List.Mem.tail _ (List.Mem.head _)) rfl) rfl ?_
  refine OpsW.det (det_move rfl) rfl ?_
  refine OpsW.sub64 (b := 2210141511517208575) rfl rfl rfl (by first | assumption | exact lim_lt _ _ | decide) (by first | assumption | exact lim_lt _ _ | decide) (by first | assumption | decide) rfl fun s22 c22 he22 hs22 hk22 => ?_
  refine OpsW.det (det_move rfl) rfl ?_
  refine OpsW.det (det_extract rfl rfl) rfl ?_
  refine OpsW.det (det_extract rfl rfl) rfl ?_
  refine OpsW.det (det_assign rfl) rfl ?_
  refine OpsW.det (det_assign rfl) rfl ?_
  refine sNext ?_
  refine W.keep (F' := [(6, _), (7, _), (5, _), (4, _), (2, _), (1, _)]) ⟨rfl, rfl, rfl, rfl, rfl, rfl, trivial⟩ ?_
  refine sSeq ?_
  refine W.region ?_
  refine OpsW.det (det_indexAddr_arr u27 sz26 rfl rfl ⟨by decide, by decide⟩) rfl ?_
  refine OpsW.det (det_loadC ty26 rfl (List.Mem.tail _ (List.Mem.head _)) rfl) rfl ?_
  refine OpsW.det (det_move rfl) rfl ?_
  refine OpsW.sub64 (b := 7435674573564081700) rfl rfl rfl (by first | assumption | exact lim_lt _ _ | decide) (by first | assumption | exact lim_lt _ _ | decide) (by first | assumption | decide) rfl fun s29 c29 he29 hs29 hk29 => ?_
  refine OpsW.det (det_move rfl) rfl ?_
  refine OpsW.det (det_extract rfl rfl) rfl ?_
  refine OpsW.det (det_extract rfl rfl) rfl ?_
  refine OpsW.det (det_assign rfl) rfl ?_
  refine OpsW.det (det_assign rfl) rfl ?_
  refine sNext ?_
  refine W.keep (F' := [(6, _), (8, _), (7, _), (5, _), (4, _), (2, _), (1, _)]) ⟨rfl, rfl, rfl, rfl, rfl, rfl, rfl, trivial⟩ ?_
  refine sSeq ?_
  refine W.region ?_
  refine OpsW.det (det_indexAddr_arr u27 sz26 rfl rfl ⟨by decide, by decide⟩) rfl ?_
  refine OpsW.det (det_loadC ty26 rfl (List.Mem.tail _ (List.Mem.head _)) rfl) rfl ?_
  refine OpsW.det (det_move rfl) rfl ?_
  refine OpsW.sub64 (b := 7239337960414712511) rfl rfl rfl (by first | assumption | exact lim_lt _ _ | decide) (by first | assumption | exact lim_lt _ _ | decide) (by first | assumption | decide) rfl fun s36 c36 he36 hs36 hk36 => ?_
  refine OpsW.det (det_move rfl) rfl ?_
  refine OpsW.det (det_extract rfl rfl) rfl ?_
  refine OpsW.det (det_extract rfl rfl) rfl ?_
  refine OpsW.det (det_assign rfl) rfl ?_
  refine OpsW.det (det_assign rfl) rfl ?_
  refine sNext ?_
  refine W.keep (F' := [(6, _), (9, _), (8, _), (7, _), (5, _), (4, _), (2, _), (1, _)]) ⟨rfl, rfl, rfl, rfl, rfl, rfl, rfl, rfl, trivial⟩ ?_
  refine sSeq ?_
  refine W.region ?_
  refine OpsW.det (det_indexAddr_arr u27 sz26 rfl rfl ⟨by decide, by decide⟩) rfl ?_
  refine OpsW.det (det_loadC ty26 rfl (List.Mem.tail _ (List.Mem.head _)) rfl) rfl ?_
  refine OpsW.det (det_move rfl) rfl ?_
  refine OpsW.sub64 (b := 5412103778470702295) rfl rfl rfl (by first | assumption | exact lim_lt _ _ | decide) (by first | assumption | exact lim_lt _ _ | decide) (by first | assumption | decide) rfl fun s43 c43 he43 hs43 hk43 => ?_
  refine OpsW.det (det_move rfl) rfl ?_
  refine OpsW.det (det_extract rfl rfl) rfl ?_
  refine OpsW.det (det_extract rfl rfl) rfl ?_
  refine OpsW.det (det_assign rfl) rfl ?_
  refine OpsW.det (det_assign rfl) rfl ?_
  refine sNext ?_
  refine W.keep (F' := [(6, _), (10, _), (9, _), (8, _), (7, _), (5, _), (4, _), (2, _), (1, _)]) ⟨rfl, rfl, rfl, rfl, rfl, rfl, rfl, rfl, rfl, trivial⟩ ?_
  refine sSeq ?_
  refine W.region ?_
  refine OpsW.det (det_indexAddr_arr u27 sz26 rfl rfl ⟨by decide, by decide⟩) rfl ?_
  refine OpsW.det (det_loadC ty26 rfl (List.Mem.tail _ (List.Mem.head _)) rfl) rfl ?_
  refine OpsW.det (det_move rfl) rfl ?_
  refine OpsW.sub64 (b := 1873798617647539866) rfl rfl rfl (by first | assumption | exact lim_lt _ _ | decide) (by first | assumption | exact lim_lt _ _ | decide) (by first | assumption | decide) rfl fun s50 c50 he50 hs50 hk50 => ?_
  refine OpsW.det (det_move rfl) rfl ?_
  refine OpsW.det (det_extract rfl rfl) rfl ?_
  refine OpsW.det (det_extract rfl rfl) rfl ?_
  refine OpsW.det (det_assign rfl) rfl ?_
  refine OpsW.det (det_assign rfl) rfl ?_
  refine sNext ?_
  refine W.keep (F' := [(6, _), (11, _), (10, _), (9, _), (8, _), (7, _), (5, _), (4, _), (2, _), (1, _)]) ⟨rfl, rfl, rfl, rfl, rfl, rfl, rfl, rfl, rfl, rfl, trivial⟩ ?_
  refine sSeq ?_
  refine sSeq ?_
  have hb : (c50 = 1 ∧ val6 a0 a1 a2 a3 a4 a5 < pp) ∨ (c50 = 0 ∧ pp ≤ val6 a0 a1 a2 a3 a4 a5 ∧ val6 s15 s22 s29 s36 s43 s50 = val6 a0 a1 a2 a3 a4 a5 - pp) := by unfold val6 pp; omega
  refine W.region ?_
  refine OpsW.det (det_move rfl) rfl ?_
  refine OpsW.det (det_eql rfl rfl) rfl ?_
  refine OpsW.det (det_move rfl) rfl ?_
  refine OpsW.guard_yes rfl rfl ?_
  refine OpsW.det (det_move rfl) rfl ?_
  refine OpsW.guard_yes rfl rfl ?_
  refine OpsW.det (det_eql rfl rfl) rfl ?_
  refine OpsW.det (det_pick rfl rfl) rfl ?_
  refine sNext ?_
  refine W.keep (F' := [(58, _), (11, _), (10, _), (9, _), (8, _), (7, _), (5, _), (4, _), (2, _)]) ⟨rfl, rfl, rfl, rfl, rfl, rfl, rfl, rfl, rfl, trivial⟩ ?_
  refine W.cond rfl (fun hc58 => ?_) (fun hc58 => ?_)
  · skip
    have hb1 : c50 = 1 := by have h := hc58; simp at h; omega
    have hb2 : val6 a0 a1 a2 a3 a4 a5 < pp := by omega
    refine sSeq ?_
    refine W.region ?_
    refine OpsW.det (det_loadA ty27 rfl (List.Mem.tail _ (List.Mem.head _)) rfl) rfl ?_
    refine OpsW.store sz27 rfl rfl rfl rfl rfl (Upd.here) rfl ?_
    refine sNext ?_
    refine W.keep (F' := [(4, _)]) ⟨rfl, trivial⟩ ?_
    refine sRet ?_
    exact done1 Tryd.results58 (rv_cellA ty27 rfl (List.Mem.head _) rfl) (((congrArg enc6 (lo_mod hb2)).trans (lim6 h0 h1 h2 h3 h4 h5)).symm)
  · skip
    have hb1 : c50 ≠ 1 := by have h := hc58; simp at h; omega
    have hb2 : val6 s15 s22 s29 s36 s43 s50 = val6 a0 a1 a2 a3 a4 a5 % pp := by rw [hi_mod (by omega) hV]; omega
    refine sSkip ?_
    refine sSeq ?_
    refine W.region ?_
    refine OpsW.det (det_move rfl) rfl ?_
    refine OpsW.det (det_move rfl) rfl ?_
    refine OpsW.det (det_move rfl) rfl ?_
    refine OpsW.det (det_move rfl) rfl ?_
    refine OpsW.det (det_move rfl) rfl ?_
    refine OpsW.det (det_move rfl) rfl ?_
    refine OpsW.det (det_build rfl bld27) rfl ?_
    refine OpsW.store sz27 rfl rfl rfl rfl rfl (Upd.here) rfl ?_
    refine sNext ?_
    refine W.keep (F' := [(4, _)]) ⟨rfl, trivial⟩ ?_
    refine sRet ?_
    exact done1 Tryd.results58 (rv_cellA ty27 rfl (List.Mem.head _) rfl) ((lim6 hs15 hs22 hs29 hs36 hs43 hs50).symm.trans (congrArg enc6 hb2))
theorem Add_w_ok {m k : Nat} (hm : m < pp) (hk : k < pp) {w : World} (hG : Blocks (GH T) w)  : Vm.Pure Tryd.prog 18 #[.agg #[u64 (lim (m) 0), u64 (lim (m) 1), u64 (lim (m) 2), u64 (lim (m) 3), u64 (lim (m) 4), u64 (lim (m) 5)], .agg #[u64 (lim (k) 0), u64 (lim (k) 1), u64 (lim (k) 2), u64 (lim (k) 3), u64 (lim (k) 4), u64 (lim (k) 5)]] w (enc6 ((m + k) % pp)) := by
  refine pure_of_W (n := 87) (args := [.agg #[u64 (lim (m) 0), u64 (lim (m) 1), u64 (lim (m) 2), u64 (lim (m) 3), u64 (lim (m) 4), u64 (lim (m) 5)], .agg #[u64 (lim (k) 0), u64 (lim (k) 1), u64 (lim (k) 2), u64 (lim (k) 3), u64 (lim (k) 4), u64 (lim (k) 5)]]) Tryd.func18 rfl Tryd.ntmps18 (Nat.le_of_ble_eq_true rfl) hG ?_
  refine sStart ?_
  refine sSeq ?_
  refine W.region ?_
  refine OpsW.fresh (fr_box rfl rfl) rfl fun b2 => ?_
  refine OpsW.fresh (fr_box rfl rfl) rfl fun b3 => ?_
  refine OpsW.fresh (fr_alloc z29) rfl fun b4 => ?_
  refine sNext ?_
  refine W.keep (F' := [(4, _), (3, _), (2, _)]) ⟨rfl, rfl, rfl, trivial⟩ ?_
  refine sSeq ?_
  refine W.region ?_
  refine OpsW.det (det_fieldAddr fl29_0 rfl) rfl ?_
  refine OpsW.det (det_indexAddr_arr u27 sz26 rfl rfl ⟨by decide, by decide⟩) rfl ?_
  refine OpsW.det (det_loadC ty26 rfl (List.Mem.tail _ (List.Mem.tail _ (List.Mem.head _))) rfl) rfl ?_
  refine OpsW.det (det_fieldAddr fl29_0 rfl) rfl ?_
  refine OpsW.det (det_indexAddr_arr u27 sz26 rfl rfl ⟨by decide, by decide⟩) rfl ?_
  refine OpsW.det (det_loadC ty26 rfl (List.Mem.tail _ (List.Mem.head _)) rfl) rfl ?_
  refine OpsW.add64 (e := 0) rfl rfl rfl (by first | assumption | exact lim_lt _ _ | decide) (by first | assumption | exact lim_lt _ _ | decide) (by first | assumption | decide) rfl fun s19 c19 he19 hs19 hk19 => ?_
  refine OpsW.det (det_move rfl) rfl ?_
  refine OpsW.det (det_extract rfl rfl) rfl ?_
  refine OpsW.det (det_extract rfl rfl) rfl ?_
  refine OpsW.det (det_assign rfl) rfl ?_
  refine OpsW.det (det_assign rfl) rfl ?_
  refine sNext ?_
  refine W.keep (F' := [(6, _), (5, _), (4, _), (3, _), (2, _)]) ⟨rfl, rfl, rfl, rfl, rfl, trivial⟩ ?_
  refine sSeq ?_
  refine W.region ?_
  refine OpsW.det (det_fieldAddr fl29_0 rfl) rfl ?_
  refine OpsW.det (det_indexAddr_arr u27 sz26 rfl rfl ⟨by decide, by decide⟩) rfl ?_
  refine OpsW.det (det_loadC ty26 rfl (List.Mem.tail _ (List.Mem.tail _ (List.Mem.head _))) rfl) rfl ?_
  refine OpsW.det (det_fieldAddr fl29_0 rfl) rfl ?_
  refine OpsW.det (det_indexAddr_arr u27 sz26 rfl rfl ⟨by decide, by decide⟩) rfl ?_
  refine OpsW.det (det_loadC ty26 rfl (List.Mem.tail _ (List.Mem.head _)) rfl) rfl ?_
  refine OpsW.det (det_move rfl) rfl ?_
  refine OpsW.add64 rfl rfl rfl (by first | assumption | exact lim_lt _ _ | decide) (by first | assumption | exact lim_lt _ _ | decide) (by first | assumption | decide) rfl fun s30 c30 he30 hs30 hk30 => ?_
  refine OpsW.det (det_move rfl) rfl ?_
  refine OpsW.det (det_extract rfl rfl) rfl ?_
  refine OpsW.det (det_extract rfl rfl) rfl ?_
  refine OpsW.det (det_assign rfl) rfl ?_
  refine OpsW.det (det_assign rfl) rfl ?_
  refine sNext ?_
  refine W.keep (F' := [(6, _), (7, _), (5, _), (4, _), (3, _), (2, _)]) ⟨rfl, rfl, rfl, rfl, rfl, rfl, trivial⟩ ?_
  refine sSeq ?_
  refine W.region ?_
  refine OpsW.det (det_fieldAddr fl29_0 rfl) rfl ?_
  refine OpsW.det (det_indexAddr_arr u27 sz26 rfl rfl ⟨by decide, by decide⟩) rfl ?_
  refine OpsW.det (det_loadC ty26 rfl (List.Mem.tail _ (List.Mem.tail _ (List.Mem.head _))) rfl) rfl ?_
  refine OpsW.det (det_fieldAddr fl29_0 rfl) rfl ?_
  refine OpsW.det (det_indexAddr_arr u27 sz26 rfl rfl ⟨by decide, by decide⟩) rfl ?_
  refine OpsW.det (det_loadC ty26 rfl (List.Mem.tail _ (List.Mem.head _)) rfl) rfl ?_
  refine OpsW.det (det_move rfl) rfl ?_
  refine OpsW.add64 rfl rfl rfl (by first | assumption | exact lim_lt _ _ | decide) (by first | assumption | exact lim_lt _ _ | decide) (by first | assumption | decide) rfl fun s41 c41 he41 hs41 hk41 => ?_
  refine OpsW.det (det_move rfl) rfl ?_
  refine OpsW.det (det_extract rfl rfl) rfl ?_
  refine OpsW.det (det_extract rfl rfl) rfl ?_
  refine OpsW.det (det_assign rfl) rfl ?_
  refine OpsW.det (det_assign rfl) rfl ?_
  refine sNext ?_
  refine W.keep (F' := [(6, _), (8, _), (7, _), (5, _), (4, _), (3, _), (2, _)]) ⟨rfl, rfl, rfl, rfl, rfl, rfl, rfl, trivial⟩ ?_
  refine sSeq ?_
  refine W.region ?_
  refine OpsW.det (det_fieldAddr fl29_0 rfl) rfl ?_
  refine OpsW.det (det_indexAddr_arr u27 sz26 rfl rfl ⟨by decide, by decide⟩) rfl ?_
  refine OpsW.det (det_loadC ty26 rfl (List.Mem.tail _ (List.Mem.tail _ (List.Mem.head _))) rfl) rfl ?_
  refine OpsW.det (det_fieldAddr fl29_0 rfl) rfl ?_
  refine OpsW.det (det_indexAddr_arr u27 sz26 rfl rfl ⟨by decide, by decide⟩) rfl ?_
  refine OpsW.det (det_loadC ty26 rfl (List.Mem.tail _ (List.Mem.head _)) rfl) rfl ?_
  refine OpsW.det (det_move rfl) rfl ?_
  refine OpsW.add64 rfl rfl rfl (by first | assumption | exact lim_lt _ _ | decide) (by first | assumption | exact lim_lt _ _ | decide) (by first | assumption | decide) rfl fun s52 c52 he52 hs52 hk52 => ?_
  refine OpsW.det (det_move rfl) rfl ?_
  refine OpsW.det (det_extract rfl rfl) rfl ?_
  refine OpsW.det (det_extract rfl rfl) rfl ?_
  refine OpsW.det (det_assign rfl) rfl ?_
  refine OpsW.det (det_assign rfl) rfl ?_
  refine sNext ?_
  refine W.keep (F' := [(6, _), (9, _), (8, _), (7, _), (5, _), (4, _), (3, _), (2, _)]) ⟨rfl, rfl, rfl, rfl, rfl, rfl, rfl, rfl, trivial⟩ ?_
  refine sSeq ?_
  refine W.region ?_
  refine OpsW.det (det_fieldAddr fl29_0 rfl) rfl ?_
  refine OpsW.det (det_indexAddr_arr u27 sz26 rfl rfl ⟨by decide, by decide⟩) rfl ?_
  refine OpsW.det (det_loadC ty26 rfl (List.Mem.tail _ (List.Mem.tail _ (List.Mem.head _))) rfl) rfl ?_
  refine OpsW.det (det_fieldAddr fl29_0 rfl) rfl ?_
  refine OpsW.det (det_indexAddr_arr u27 sz26 rfl rfl ⟨by decide, by decide⟩) rfl ?_
  refine OpsW.det (det_loadC ty26 rfl (List.Mem.tail _ (List.Mem.head _)) rfl) rfl ?_
  refine OpsW.det (det_move rfl) rfl ?_
  refine OpsW.add64 rfl rfl rfl (by first | assumption | exact lim_lt _ _ | decide) (by first | assumption | exact lim_lt _ _ | decide) (by first | assumption | decide) rfl fun s63 c63 he63 hs63 hk63 => ?_
  refine OpsW.det (det_move rfl) rfl ?_
  refine OpsW.det (det_extract rfl rfl) rfl ?_
  refine OpsW.det (det_extract rfl rfl) rfl ?_
  refine OpsW.det (det_assign rfl) rfl ?_
  refine OpsW.det (det_assign rfl) rfl ?_
  refine sNext ?_
  refine W.keep (F' := [(6, _), (10, _), (9, _), (8, _), (7, _), (5, _), (4, _), (3, _), (2, _)]) ⟨rfl, rfl, rfl, rfl, rfl, rfl, rfl, rfl, rfl, trivial⟩ ?_
  refine sSeq ?_
  refine W.region ?_
  refine OpsW.det (det_fieldAddr fl29_0 rfl) rfl ?_
  refine OpsW.det (det_indexAddr_arr u27 sz26 rfl rfl ⟨by decide, by decide⟩) rfl ?_
  refine OpsW.det (det_loadC ty26 rfl (List.Mem.tail _ (List.Mem.tail _ (List.Mem.head _))) rfl) rfl ?_
  refine OpsW.det (det_fieldAddr fl29_0 rfl) rfl ?_
  refine OpsW.det (det_indexAddr_arr u27 sz26 rfl rfl ⟨by decide, by decide⟩) rfl ?_
  refine OpsW.det (det_loadC ty26 rfl (List.Mem.tail _ (List.Mem.head _)) rfl) rfl ?_
  refine OpsW.det (det_move rfl) rfl ?_
  refine OpsW.add64 rfl rfl rfl (by first | assumption | exact lim_lt _ _ | decide) (by first | assumption | exact lim_lt _ _ | decide) (by first | assumption | decide) rfl fun s74 c74 he74 hs74 hk74 => ?_
  refine OpsW.det (det_move rfl) rfl ?_
  refine OpsW.det (det_extract rfl rfl) rfl ?_
  refine OpsW.det (det_extract rfl rfl) rfl ?_
  refine OpsW.det (det_assign rfl) rfl ?_
  refine OpsW.det (det_assign rfl) rfl ?_
  refine sNext ?_
  refine W.keep (F' := [(6, _), (11, _), (10, _), (9, _), (8, _), (7, _), (5, _), (4, _)]) ⟨rfl, rfl, rfl, rfl, rfl, rfl, rfl, rfl, trivial⟩ ?_
  refine sSeq ?_
  have hm' := val_lim6 (m := m) (by unfold pp at hm; unfold R6; omega)
  have hk' := val_lim6 (m := k) (by unfold pp at hk; unfold R6; omega)
  have hz : c74 = 0 := by unfold val6 at hm' hk'; unfold pp at hm hk; omega
  subst hz
  have hV : val6 s19 s30 s41 s52 s63 s74 = m + k := by unfold val6 at hm' hk' ⊢; omega
  refine W.region ?_
  refine OpsW.det (det_move rfl) rfl ?_
  refine OpsW.det (det_move rfl) rfl ?_
  refine OpsW.det (det_move rfl) rfl ?_
  refine OpsW.det (det_move rfl) rfl ?_
  refine OpsW.det (det_move rfl) rfl ?_
  refine OpsW.det (det_move rfl) rfl ?_
  refine OpsW.det (det_build rfl bld27) rfl ?_
  refine OpsW.det (det_move rfl) rfl ?_
  refine OpsW.det (det_call en58 rfl (fun w hb ho => reduce_ok hs19 hs30 hs41 hs52 hs63 hs74 (by omega) ho.blocks)) rfl ?_
  refine OpsW.det (det_build rfl bld29) rfl ?_
  refine OpsW.store sz29 rfl rfl rfl rfl rfl (Upd.here) rfl ?_
  refine sNext ?_
  refine W.keep (F' := [(4, _)]) ⟨rfl, trivial⟩ ?_
  refine sRet ?_
  exact done1 Tryd.results18 (rv_cellA ty29 rfl (List.Mem.head _) rfl) (congrArg (fun z => enc6 (z % pp)) hV)
theorem Sub_w_ok {m k : Nat} (hm : m < pp) (hk : k < pp) {w : World} (hG : Blocks (GH T) w)  : Vm.Pure Tryd.prog 62 #[.agg #[u64 (lim (m) 0), u64 (lim (m) 1), u64 (lim (m) 2), u64 (lim (m) 3), u64 (lim (m) 4), u64 (lim (m) 5)], .agg #[u64 (lim (k) 0), u64 (lim (k) 1), u64 (lim (k) 2), u64 (lim (k) 3), u64 (lim (k) 4), u64 (lim (k) 5)]] w (enc6 ((m + (pp - k)) % pp)) := by
  refine pure_of_W (n := 131) (args := [.agg #[u64 (lim (m) 0), u64 (lim (m) 1), u64 (lim (m) 2), u64 (lim (m) 3), u64 (lim (m) 4), u64 (lim (m) 5)], .agg #[u64 (lim (k) 0), u64 (lim (k) 1), u64 (lim (k) 2), u64 (lim (k) 3), u64 (lim (k) 4), u64 (lim (k) 5)]]) Tryd.func62 rfl Tryd.ntmps62 (Nat.le_of_ble_eq_true rfl) hG ?_
  refine sStart ?_
  refine sSeq ?_
  refine W.region ?_
  refine OpsW.fresh (fr_box rfl rfl) rfl fun b2 => ?_
  refine OpsW.fresh (fr_box rfl rfl) rfl fun b3 => ?_
  refine OpsW.fresh (fr_alloc z29) rfl fun b4 => ?_
  refine sNext ?_
  refine W.keep (F' := [(4, _), (3, _), (2, _)]) ⟨rfl, rfl, rfl, trivial⟩ ?_
  refine sSeq ?_
  refine W.region ?_
  refine OpsW.det (det_fieldAddr fl29_0 rfl) rfl ?_
  refine OpsW.det (det_indexAddr_arr u27 sz26 rfl rfl ⟨by decide, by decide⟩) rfl ?_
  refine OpsW.det (det_loadC ty26 rfl (List.Mem.tail _ (List.Mem.tail _ (List.Mem.head _))) rfl) rfl ?_
  refine OpsW.det (det_fieldAddr fl29_0 rfl) rfl ?_
  refine OpsW.det (det_indexAddr_arr u27 sz26 rfl rfl ⟨by decide, by decide⟩) rfl ?_
  refine OpsW.det (det_loadC ty26 rfl (List.Mem.tail _ (List.Mem.head _)) rfl) rfl ?_
  refine OpsW.sub64 (e := 0) rfl rfl rfl (by first | assumption | exact lim_lt _ _ | decide) (by first | assumption | exact lim_lt _ _ | decide) (by first | assumption | decide) rfl fun s20 c20 he20 hs20 hk20 => ?_
  refine OpsW.det (det_move rfl) rfl ?_
  refine OpsW.det (det_extract rfl rfl) rfl ?_
  refine OpsW.det (det_extract rfl rfl) rfl ?_
  refine OpsW.det (det_assign rfl) rfl ?_
  refine OpsW.det (det_assign rfl) rfl ?_
  refine sNext ?_
  refine W.keep (F' := [(6, _), (5, _), (4, _), (3, _), (2, _)]) ⟨rfl, rfl, rfl, rfl, rfl, trivial⟩ ?_
  refine sSeq ?_
  refine W.region ?_
  refine OpsW.det (det_fieldAddr fl29_0 rfl) rfl ?_
  refine OpsW.det (det_indexAddr_arr u27 sz26 rfl rfl ⟨by decide, by decide⟩) rfl ?_
  refine OpsW.det (det_loadC ty26 rfl (List.Mem.tail _ (List.Mem.tail _ (List.Mem.head _))) rfl) rfl ?_
  refine OpsW.det (det_fieldAddr fl29_0 rfl) rfl ?_
  refine OpsW.det (det_indexAddr_arr u27 sz26 rfl rfl ⟨by decide, by decide⟩) rfl ?_
  refine OpsW.det (det_loadC ty26 rfl (List.Mem.tail _ (List.Mem.head _)) rfl) rfl ?_
  refine OpsW.det (det_move rfl) rfl ?_
  refine OpsW.sub64 rfl rfl rfl (by first | assumption | exact lim_lt _ _ | decide) (by first | assumption | exact lim_lt _ _ | decide) (by first | assumption | decide) rfl fun s31 c31 he31 hs31 hk31 => ?_
  refine OpsW.det (det_move rfl) rfl ?_
  refine OpsW.det (det_extract rfl rfl) rfl ?_
  refine OpsW.det (det_extract rfl rfl) rfl ?_
  refine OpsW.det (det_assign rfl) rfl ?_
  refine OpsW.det (det_assign rfl) rfl ?_
  refine sNext ?_
  refine W.keep (F' := [(6, _), (7, _), (5, _), (4, _), (3, _), (2, _)]) ⟨rfl, rfl, rfl, rfl, rfl, rfl, trivial⟩ ?_
  refine sSeq ?_
  refine W.region ?_
  refine OpsW.det (det_fieldAddr fl29_0 rfl) rfl ?_
  refine OpsW.det (det_indexAddr_arr u27 sz26 rfl rfl ⟨by decide, by decide⟩) rfl ?_
  refine OpsW.det (det_loadC ty26 rfl (List.Mem.tail _ (List.Mem.tail _ (List.Mem.head _))) rfl) rfl ?_
  refine OpsW.det (det_fieldAddr fl29_0 rfl) rfl ?_
  refine OpsW.det (det_indexAddr_arr u27 sz26 rfl rfl ⟨by decide, by decide⟩) rfl ?_
  refine OpsW.det (det_loadC ty26 rfl (List.Mem.tail _ (List.Mem.head _)) rfl) rfl ?_
  refine OpsW.det (det_move rfl) rfl ?_
  refine OpsW.sub64 rfl rfl rfl (by first | assumption | exact lim_lt _ _ | decide) (by first | assumption | exact lim_lt _ _ | decide) (by first | assumption | decide) rfl fun s42 c42 he42 hs42 hk42 => ?_
  refine OpsW.det (det_move rfl) rfl ?_
  refine OpsW.det (det_extract rfl rfl) rfl ?_
  refine OpsW.det (det_extract rfl rfl) rfl ?_
  refine OpsW.det (det_assign rfl) rfl ?_
  refine OpsW.det (det_assign rfl) rfl ?_
  refine sNext ?_
  refine W.keep (F' := [(6, _), (8, _), (7, _), (5, _), (4, _), (3, _), (2, _)]) ⟨rfl, rfl, rfl, rfl, rfl, rfl, rfl, trivial⟩ ?_
  refine sSeq ?_
  refine W.region ?_
  refine OpsW.det (det_fieldAddr fl29_0 rfl) rfl ?_
  refine OpsW.det (det_indexAddr_arr u27 sz26 rfl rfl ⟨by decide, by decide⟩) rfl ?_
  refine OpsW.det (det_loadC ty26 rfl (List.Mem.tail _ (List.Mem.tail _ (List.Mem.head _))) rfl) rfl ?_
  refine OpsW.det (det_fieldAddr fl29_0 rfl) rfl ?_
  refine OpsW.det (det_indexAddr_arr u27 sz26 rfl rfl ⟨by decide, by decide⟩) rfl ?_
  refine OpsW.det (det_loadC ty26 rfl (List.Mem.tail _ (List.Mem.head _)) rfl) rfl ?_
  refine OpsW.det (det_move rfl) rfl ?_
  refine OpsW.sub64 rfl rfl rfl (by first | assumption | exact lim_lt _ _ | decide) (by first | assumption | exact lim_lt _ _ | decide) (by first | assumption | decide) rfl fun s53 c53 he53 hs53 hk53 => ?_
  refine OpsW.det (det_move rfl) rfl ?_
  refine OpsW.det (det_extract rfl rfl) rfl ?_
  refine OpsW.det (det_extract rfl rfl) rfl ?_
  refine OpsW.det (det_assign rfl) rfl ?_
  refine OpsW.det (det_assign rfl) rfl ?_
  refine sNext ?_
  refine W.keep (F' := [(6, _), (9, _), (8, _), (7, _), (5, _), (4, _), (3, _), (2, _)]) ⟨rfl, rfl, rfl, rfl, rfl, rfl, rfl, rfl, trivial⟩ ?_
  refine sSeq ?_
  refine W.region ?_
  refine OpsW.det (det_fieldAddr fl29_0 rfl) rfl ?_
  refine OpsW.det (det_indexAddr_arr u27 sz26 rfl rfl ⟨by decide, by decide⟩) rfl ?_
  refine OpsW.det (det_loadC ty26 rfl (List.Mem.tail _ (List.Mem.tail _ (List.Mem.head _))) rfl) rfl ?_
  refine OpsW.det (det_fieldAddr fl29_0 rfl) rfl ?_
  refine OpsW.det (det_indexAddr_arr u27 sz26 rfl rfl ⟨by decide, by decide⟩) rfl ?_
  refine OpsW.det (det_loadC ty26 rfl (List.Mem.tail _ (List.Mem.head _)) rfl) rfl ?_
  refine OpsW.det (det_move rfl) rfl ?_
  refine OpsW.sub64 rfl rfl rfl (by first | assumption | exact lim_lt _ _ | decide) (by first | assumption | exact lim_lt _ _ | decide) (by first | assumption | decide) rfl fun s64 c64 he64 hs64 hk64 => ?_
  refine OpsW.det (det_move rfl) rfl ?_
  refine OpsW.det (det_extract rfl rfl) rfl ?_
  refine OpsW.det (det_extract rfl rfl) rfl ?_
  refine OpsW.det (det_assign rfl) rfl ?_
  refine OpsW.det (det_assign rfl) rfl ?_
  refine sNext ?_
  refine W.keep (F' := [(6, _), (10, _), (9, _), (8, _), (7, _), (5, _), (4, _), (3, _), (2, _)]) ⟨rfl, rfl, rfl, rfl, rfl, rfl, rfl, rfl, rfl, trivial⟩ ?_
  refine sSeq ?_
  refine W.region ?_
  refine OpsW.det (det_fieldAddr fl29_0 rfl) rfl ?_
  refine OpsW.det (det_indexAddr_arr u27 sz26 rfl rfl ⟨by decide, by decide⟩) rfl ?_
  refine OpsW.det (det_loadC ty26 rfl (List.Mem.tail _ (List.Mem.tail _ (List.Mem.head _))) rfl) rfl ?_
  refine OpsW.det (det_fieldAddr fl29_0 rfl) rfl ?_
  refine OpsW.det (det_indexAddr_arr u27 sz26 rfl rfl ⟨by decide, by decide⟩) rfl ?_
  refine OpsW.det (det_loadC ty26 rfl (List.Mem.tail _ (List.Mem.head _)) rfl) rfl ?_
  refine OpsW.det (det_move rfl) rfl ?_
  refine OpsW.sub64 rfl rfl rfl (by first | assumption | exact lim_lt _ _ | decide) (by first | assumption | exact lim_lt _ _ | decide) (by first | assumption | decide) rfl fun s75 c75 he75 hs75 hk75 => ?_
  refine OpsW.det (det_move rfl) rfl ?_
  refine OpsW.det (det_extract rfl rfl) rfl ?_
  refine OpsW.det (det_extract rfl rfl) rfl ?_
  refine OpsW.det (det_assign rfl) rfl ?_
  refine OpsW.det (det_assign rfl) rfl ?_
  refine sNext ?_
  refine W.keep (F' := [(6, _), (11, _), (10, _), (9, _), (8, _), (7, _), (5, _), (4, _)]) ⟨rfl, rfl, rfl, rfl, rfl, rfl, rfl, rfl, trivial⟩ ?_
  refine sSeq ?_
  refine sSeq ?_
  have hm' := val_lim6 (m := m) (by unfold pp at hm; unfold R6; omega)
  have hk' := val_lim6 (m := k) (by unfold pp at hk; unfold R6; omega)
  have hV : val6 s20 s31 s42 s53 s64 s75 + k = m + R6 * c75 := by unfold val6 at hm' hk' ⊢; unfold R6; omega
  clear he20 he31 he42 he53 he64 he75 hm' hk'
  refine W.region ?_
  refine OpsW.det (det_move rfl) rfl ?_
  refine OpsW.det (det_eql rfl rfl) rfl ?_
  refine sNext ?_
  refine W.keep (F' := [(79, _), (11, _), (10, _), (9, _), (8, _), (7, _), (5, _), (4, _)]) ⟨rfl, rfl, rfl, rfl, rfl, rfl, rfl, rfl, trivial⟩ ?_
  refine W.cond rfl (fun hc79 => ?_) (fun hc79 => ?_)
  · skip
    have hz : c75 = 0 := by have h := hc79; simp at h; omega
    subst hz
    have hW : val6 s20 s31 s42 s53 s64 s75 = (m + (pp - k)) % pp := by rw [hi_mod (by omega) (by omega)]; omega
    refine sSeq ?_
    refine W.region ?_
    refine OpsW.det (det_move rfl) rfl ?_
    refine OpsW.det (det_move rfl) rfl ?_
    refine OpsW.det (det_move rfl) rfl ?_
    refine OpsW.det (det_move rfl) rfl ?_
    refine OpsW.det (det_move rfl) rfl ?_
    refine OpsW.det (det_move rfl) rfl ?_
    refine OpsW.det (det_build rfl bld27) rfl ?_
    refine OpsW.det (det_build rfl bld29) rfl ?_
    refine OpsW.store sz29 rfl rfl rfl rfl rfl (Upd.here) rfl ?_
    refine sNext ?_
    refine W.keep (F' := [(4, _)]) ⟨rfl, trivial⟩ ?_
    refine sRet ?_
    exact done1 Tryd.results62 (rv_cellA ty29 rfl (List.Mem.head _) rfl) ((lim6 hs20 hs31 hs42 hs53 hs64 hs75).symm.trans (congrArg enc6 hW))
  · skip
    have hz : c75 = 1 := by have h := hc79; simp at h; omega
    subst hz
    refine sSkip ?_
    refine sSeq ?_
    refine W.region ?_
    refine OpsW.det (det_move rfl) rfl ?_
    refine OpsW.add64 (b := 13402431016077863595) (e := 0) rfl rfl rfl (by first | assumption | exact lim_lt _ _ | decide) (by first | assumption | exact lim_lt _ _ | decide) (by first | assumption | decide) rfl fun s90 c90 he90 hs90 hk90 => ?_
    refine OpsW.det (det_move rfl) rfl ?_
    refine OpsW.det (det_extract rfl rfl) rfl ?_
    refine OpsW.det (det_extract rfl rfl) rfl ?_
    refine OpsW.det (det_assign rfl) rfl ?_
    refine OpsW.det (det_assign rfl) rfl ?_
    refine sNext ?_
    refine W.keep (F' := [(12, _), (5, _), (11, _), (10, _), (9, _), (8, _), (7, _), (4, _)]) ⟨rfl, rfl, rfl, rfl, rfl, rfl, rfl, rfl, trivial⟩ ?_
    refine sSeq ?_
    refine W.region ?_
    refine OpsW.det (det_move rfl) rfl ?_
    refine OpsW.det (det_move rfl) rfl ?_
    refine OpsW.add64 (b := 2210141511517208575) rfl rfl rfl (by first | assumption | exact lim_lt _ _ | decide) (by first | assumption | exact lim_lt _ _ | decide) (by first | assumption | decide) rfl fun s96 c96 he96 hs96 hk96 => ?_
    refine OpsW.det (det_move rfl) rfl ?_
    refine OpsW.det (det_extract rfl rfl) rfl ?_
    refine OpsW.det (det_extract rfl rfl) rfl ?_
    refine OpsW.det (det_assign rfl) rfl ?_
    refine OpsW.det (det_assign rfl) rfl ?_
    refine sNext ?_
    refine W.keep (F' := [(12, _), (7, _), (5, _), (11, _), (10, _), (9, _), (8, _), (4, _)]) ⟨rfl, rfl, rfl, rfl, rfl, rfl, rfl, rfl, trivial⟩ ?_
    refine sSeq ?_
    refine W.region ?_
    refine OpsW.det (det_move rfl) rfl ?_
    refine OpsW.det (det_move rfl) rfl ?_
    refine OpsW.add64 (b := 7435674573564081700) rfl rfl rfl (by first | assumption | exact lim_lt _ _ | decide) (by first | assumption | exact lim_lt _ _ | decide) (by first | assumption | decide) rfl fun s102 c102 he102 hs102 hk102 => ?_
    refine OpsW.det (det_move rfl) rfl ?_
    refine OpsW.det (det_extract rfl rfl) rfl ?_
    refine OpsW.det (det_extract rfl rfl) rfl ?_
    refine OpsW.det (det_assign rfl) rfl ?_
    refine OpsW.det (det_assign rfl) rfl ?_
    refine sNext ?_
    refine W.keep (F' := [(12, _), (8, _), (7, _), (5, _), (11, _), (10, _), (9, _), (4, _)]) ⟨rfl, rfl, rfl, rfl, rfl, rfl, rfl, rfl, trivial⟩ ?_
    refine sSeq ?_
    refine W.region ?_
    refine OpsW.det (det_move rfl) rfl ?_
    refine OpsW.det (det_move rfl) rfl ?_
    refine OpsW.add64 (b := 7239337960414712511) rfl rfl rfl (by first | assumption | exact lim_lt _ _ | decide) (by first | assumption | exact lim_lt _ _ | decide) (by first | assumption | decide) rfl fun s108 c108 he108 hs108 hk108 => ?_
    refine OpsW.det (det_move rfl) rfl ?_
    refine OpsW.det (det_extract rfl rfl) rfl ?_
    refine OpsW.det (det_extract rfl rfl) rfl ?_
    refine OpsW.det (det_assign rfl) rfl ?_
    refine OpsW.det (det_assign rfl) rfl ?_
    refine sNext ?_
    refine W.keep (F' := [(12, _), (9, _), (8, _), (7, _), (5, _), (11, _), (10, _), (4, _)]) ⟨rfl, rfl, rfl, rfl, rfl, rfl, rfl, rfl, trivial⟩ ?_
    refine sSeq ?_
    refine W.region ?_
    refine OpsW.det (det_move rfl) rfl ?_
    refine OpsW.det (det_move rfl) rfl ?_
    refine OpsW.add64 (b := 5412103778470702295) rfl rfl rfl (by first | assumption | exact lim_lt _ _ | decide) (by first | assumption | exact lim_lt _ _ | decide) (by first | assumption | decide) rfl fun s114 c114 he114 hs114 hk114 => ?_
    refine OpsW.det (det_move rfl) rfl ?_
    refine OpsW.det (det_extract rfl rfl) rfl ?_
    refine OpsW.det (det_extract rfl rfl) rfl ?_
    refine OpsW.det (det_assign rfl) rfl ?_
    refine OpsW.det (det_assign rfl) rfl ?_
    refine sNext ?_
    refine W.keep (F' := [(12, _), (10, _), (9, _), (8, _), (7, _), (5, _), (11, _), (4, _)]) ⟨rfl, rfl, rfl, rfl, rfl, rfl, rfl, rfl, trivial⟩ ?_
    refine sSeq ?_
    refine W.region ?_
    refine OpsW.det (det_move rfl) rfl ?_
    refine OpsW.det (det_move rfl) rfl ?_
    refine OpsW.add64 (b := 1873798617647539866) rfl rfl rfl (by first | assumption | exact lim_lt _ _ | decide) (by first | assumption | exact lim_lt _ _ | decide) (by first | assumption | decide) rfl fun s120 c120 he120 hs120 hk120 => ?_
    refine OpsW.det (det_move rfl) rfl ?_
    refine OpsW.det (det_extract rfl rfl) rfl ?_
    refine OpsW.det (det_extract rfl rfl) rfl ?_
    refine OpsW.det (det_assign rfl) rfl ?_
    refine sNext ?_
    refine W.keep (F' := [(11, _), (10, _), (9, _), (8, _), (7, _), (5, _), (4, _)]) ⟨rfl, rfl, rfl, rfl, rfl, rfl, rfl, trivial⟩ ?_
    refine sSeq ?_
    have hU : val6 s90 s96 s102 s108 s114 s120 + R6 * c120 = val6 s20 s31 s42 s53 s64 s75 + pp := by unfold val6 R6 pp; omega
    have h1 := val6_lt hs90 hs96 hs102 hs108 hs114 hs120
    have h2 := val6_lt hs20 hs31 hs42 hs53 hs64 hs75
    have hlt : m + (pp - k) < pp := by clear hU he90 he96 he102 he108 he114 he120; unfold R6 at hV h2; omega
    have hW : val6 s90 s96 s102 s108 s114 s120 = (m + (pp - k)) % pp := by rw [lo_mod hlt]; clear he90 he96 he102 he108 he114 he120; unfold R6 at hV hU h1 h2; omega
    refine W.region ?_
    refine OpsW.det (det_move rfl) rfl ?_
    refine OpsW.det (det_move rfl) rfl ?_
    refine OpsW.det (det_move rfl) rfl ?_
    refine OpsW.det (det_move rfl) rfl ?_
    refine OpsW.det (det_move rfl) rfl ?_
    refine OpsW.det (det_move rfl) rfl ?_
    refine OpsW.det (det_build rfl bld27) rfl ?_
    refine OpsW.det (det_build rfl bld29) rfl ?_
    refine OpsW.store sz29 rfl rfl rfl rfl rfl (Upd.here) rfl ?_
    refine sNext ?_
    refine W.keep (F' := [(4, _)]) ⟨rfl, trivial⟩ ?_
    refine sRet ?_
    exact done1 Tryd.results62 (rv_cellA ty29 rfl (List.Mem.head _) rfl) ((lim6 hs90 hs96 hs102 hs108 hs114 hs120).symm.trans (congrArg enc6 hW))

end Go.Cu
