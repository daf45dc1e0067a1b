/-
  Maps with keys that are texts, in the logic of partial frames and heaps.
  Conditions: none; it is a library of lemmas over any program.
-/
import Derived.Test.YtajedkhfliondaaVmNew
import Derived.MapKept
import Derived.Laws.IdiomRangeMap
namespace Go.Vm
open Go Go.RowKit
set_option linter.unusedVariables false
set_option linter.unusedSimpArgs false
set_option linter.unusedSectionVars false

/-- A text's value. -/
abbrev sv (s : List UInt8) : Value := .string ⟨s.toArray⟩
theorem sv_inj {s t : List UInt8} : (⟨s.toArray⟩ : ByteArray) = ⟨t.toArray⟩ ↔ s = t := by
  constructor
  · intro h
    have h1 : s.toArray = t.toArray := congrArg ByteArray.data h
    simpa using h1
  · intro h; rw [h]
/-- An entry: a text, a value, a stamp. -/
abbrev ME := List UInt8 × Value × Nat
def ment (e : ME) : MapEntry := ⟨sv e.1, e.2.1, e.2.2⟩
def mobj (l : List ME) (clock : Nat) : Obj := .map (l.map ment).toArray clock
def mfindI (s : List UInt8) : List ME → Nat → Option (Nat × Value)
  | [], _ => none
  | e :: r, i => if s = e.1 then some (i, e.2.1) else mfindI s r (i + 1)
def mfind (s : List UInt8) : List ME → Option Value
  | [] => none
  | e :: r => if s = e.1 then some e.2.1 else mfind s r
def mset (s : List UInt8) (v : Value) (c : Nat) : List ME → List ME
  | [] => [(s, v, c)]
  | e :: r => if s = e.1 then (s, v, e.2.2) :: r else e :: mset s v c r
def mclk (s : List UInt8) (c : Nat) (l : List ME) : Nat := match mfind s l with | some _ => c | none => c + 1
def mdel (s : List UInt8) : List ME → List ME
  | [] => []
  | e :: r => if s = e.1 then r else e :: mdel s r
theorem mfindI_eq (s : List UInt8) : ∀ (l : List ME) (i : Nat), (mfindI s l i).map (·.2) = mfind s l
  | [], _ => rfl
  | e :: r, i => by
    unfold mfindI mfind
    split
    · rfl
    · exact mfindI_eq s r (i + 1)
theorem mfindI_none {s : List UInt8} : ∀ {l : List ME} {i : Nat}, mfindI s l i = none → mfind s l = none := fun {l i} h => by
  rw [← mfindI_eq s l i, h]; rfl
theorem mfindI_some {s : List UInt8} {l : List ME} {i : Nat} {p : Nat × Value} (h : mfindI s l i = some p) : mfind s l = some p.2 := by
  rw [← mfindI_eq s l i, h]; rfl
theorem findNow_map (s : List UInt8) : ∀ (l : List ME) (i : Nat), Instr.findNow .string (sv s) (l.map ment) i = some (mfindI s l i)
  | [], _ => rfl
  | e :: r, i => by
    have hs : Instr.sameNow .string (sv s) (ment e).key = some (decide (s = e.1)) := by
      show some (s.toArray == e.1.toArray) = _
      congr 1
      rw [Bool.eq_iff_iff, decide_eq_true_eq, beq_iff_eq]
      simp
    rw [List.map_cons]
    unfold Instr.findNow mfindI
    rw [hs]
    by_cases h : s = e.1
    · simp [h, ment]
    · simp [h, findNow_map s r (i + 1)]
theorem mset_found {s : List UInt8} {v : Value} {c : Nat} : ∀ {l : List ME} {i j : Nat} {u : Value}, mfindI s l i = some (j, u) → i ≤ j ∧ ∃ e, l[j - i]? = some e ∧ e.1 = s ∧
    (mset s v c l).map ment = (l.map ment).modify (j - i) (fun e => { e with key := sv s, val := v })
  | [], i, j, u, h => by cases h
  | e :: r, i, j, u, h => by
    unfold mfindI at h
    by_cases he : s = e.1
    · simp only [he, if_true, Option.some.injEq, Prod.mk.injEq] at h
      obtain ⟨rfl, rfl⟩ := h
      refine ⟨Nat.le_refl _, e, by simp, he.symm, ?_⟩
      unfold mset
      simp [he, ment, List.modify]
    · simp only [he, if_false] at h
      obtain ⟨h1, e', h2, h3, h4⟩ := mset_found (v := v) (c := c) h
      refine ⟨by omega, e', ?_, h3, ?_⟩
      · rw [show j - i = (j - (i + 1)) + 1 by omega, List.getElem?_cons_succ]; exact h2
      · unfold mset
        simp only [he, if_false, List.map_cons, h4]
        rw [show j - i = (j - (i + 1)) + 1 by omega, List.modify_succ_cons]
theorem mset_new {s : List UInt8} {v : Value} {c : Nat} : ∀ {l : List ME}, mfind s l = none → mset s v c l = l ++ [(s, v, c)]
  | [], _ => rfl
  | e :: r, h => by
    unfold mfind at h
    unfold mset
    by_cases he : s = e.1
    · simp [he] at h
    · simp only [he, if_false] at h ⊢
      rw [mset_new h]; rfl
theorem mdel_none {s : List UInt8} : ∀ {l : List ME}, mfind s l = none → mdel s l = l
  | [], _ => rfl
  | e :: r, h => by
    unfold mfind at h
    unfold mdel
    by_cases he : s = e.1
    · simp [he] at h
    · simp only [he, if_false] at h ⊢
      rw [mdel_none h]
theorem mdel_found {s : List UInt8} : ∀ {l : List ME} {i j : Nat} {u : Value}, mfindI s l i = some (j, u) → i ≤ j ∧ (mdel s l).map ment = (l.map ment).eraseIdx (j - i)
  | [], i, j, u, h => by cases h
  | e :: r, i, j, u, h => by
    unfold mfindI at h
    unfold mdel
    by_cases he : s = e.1
    · simp only [he, if_true, Option.some.injEq, Prod.mk.injEq] at h
      obtain ⟨rfl, rfl⟩ := h
      exact ⟨Nat.le_refl _, by simp [he]⟩
    · simp only [he, if_false] at h
      obtain ⟨h1, h2⟩ := mdel_found h
      refine ⟨by omega, ?_⟩
      simp only [he, if_false, List.map_cons, h2]
      rw [show j - i = (j - (i + 1)) + 1 by omega, List.eraseIdx_cons_succ]

section
variable {P : Program} {n : Nat} {K : List Nat} {G : Hp} {w0 : World} {F : Fr} {H H' : Hp} {ops : Array Oper} {rest : List Oper} {R : Fr → Hp → Prop} {ty : TypeId} {pos : String} {after : Array Edge} {x y z : Operand} {d : Option Tmp} {g : Option (Nat × Bool)}
/-- A map's type: its keys are texts; an element's zero. -/
structure TyM (P : Program) (t kt et : TypeId) (zero : Value) : Prop where
  und : P.underlying t = some (.map kt et)
  key : P.underlying kt = some .string
  zero : ∀ w, (zeroValue et).run P w = .ok zero w
variable {t kt et : TypeId} {zero : Value}
theorem run_find_map {w : World} {s : List UInt8} {l : List ME} (T : TyM P t kt et zero) : (Instr.findKey kt (sv s) (l.map ment)).run P w = .ok (mfindI s l 0) w :=
  MapKept.run_findKey T.key (findNow_map s l 0)
theorem run_check_map {w : World} {s : List UInt8} {b : Bool} (T : TyM P t kt et zero) : (Instr.checkKey b 10000 kt (sv s)).run P w = .ok () w :=
  MapKept.run_checkKey T.key (show MapKept.IsKey .string (.string _) from trivial) b 9999
theorem run_lookup {w : World} {s : List UInt8} {l : List ME} {c bm : Nat} {ok : Bool} (T : TyM P t kt et zero) (h : w.heap[bm]? = some (mobj l c)) :
    (Instr.lookup t (.map (some bm)) (sv s) ok).run P w = .ok (if ok then .tuple #[(mfind s l).getD zero, .bool (mfind s l).isSome] else (mfind s l).getD zero) w := by
  unfold Instr.lookup
  simp only [Sem.run_bind, run_underlying T.und, Result.andThen_ok, MapKept.run_getObj_map h, Sem.run_pure, run_check_map T, List.toList_toArray, run_find_map T]
  rw [← mfindI_eq s l 0]
  cases hf : mfindI s l 0 with
  | none => simp [T.zero]
  | some p => simp
theorem det_lookupOk {s : List UInt8} {l : List ME} {c bm : Nat} (T : TyM P t kt et zero) (hx : ev F x = some (.map (some bm))) (hy : ev F y = some (sv s)) (hm : (bm, mobj l c) ∈ H ∨ (bm, mobj l c) ∈ G) :
    Det P K G w0 ⟨d, .lookup t x y true, ty, pos, after, g⟩ F H (.tuple [(mfind s l).getD zero, .bool (mfind s l).isSome].toArray) :=
  det_run fun a w hs hb ho => by simp [execOp, hs.ev hx, hs.ev hy, run_lookup (ok := true) (s := s) T (hm.elim (fun h => hb _ h) (fun h => ho.look h))]
theorem det_lookup {s : List UInt8} {l : List ME} {c bm : Nat} (T : TyM P t kt et zero) (hx : ev F x = some (.map (some bm))) (hy : ev F y = some (sv s)) (hm : (bm, mobj l c) ∈ H ∨ (bm, mobj l c) ∈ G) :
    Det P K G w0 ⟨d, .lookup t x y false, ty, pos, after, g⟩ F H ((mfind s l).getD zero) :=
  det_run fun a w hs hb ho => by simp [execOp, hs.ev hx, hs.ev hy, run_lookup (ok := false) (s := s) T (hm.elim (fun h => hb _ h) (fun h => ho.look h))]
theorem det_lenMap {l : List ME} {c bm : Nat} (hu : P.underlying t = some (.map kt et)) (hx : ev F x = some (.map (some bm))) (hm : (bm, mobj l c) ∈ H ∨ (bm, mobj l c) ∈ G) :
    Det P K G w0 ⟨d, .call { callee := .builtin .len, args := #[x], argTypes := #[t] }, ty, pos, after, g⟩ F H (.int .i64 (l.length : Nat)) :=
  det_run fun a w hs hb ho => by
    have h1 : w.heap[bm]? = some (mobj l c) := hm.elim (fun h => hb _ h) (fun h => ho.look h)
    simp [execOp, hs.ev hx, resolve, invoke, builtin, Builtin.len_, run_underlying hu, goInt, MapKept.run_getObj_map (show w.heap[bm]? = some (.map (l.map ment).toArray c) from h1)]
theorem fr_makeMap : Fresh P K G w0 ⟨d, .makeMap t none, ty, pos, after, g⟩ F (fun b => .map (some b)) (mobj [] 0) :=
  fun a w hs _ => by simp [execOp, Instr.makeMap, newObj, Sem.run, World.alloc_eq, mobj]
theorem set_wrote {w : World} {b : Nat} {o o' : Obj} (h : w.heap[b]? = some o) : Wrote w { w with heap := w.heap.setIfInBounds b o' } b o' :=
  ⟨rfl, rfl, rfl, by simp, by have := lt_of_some h; simp [Array.getElem?_setIfInBounds, this], fun i hi => by
    show (w.heap.setIfInBounds b o')[i]? = _
    rw [Array.getElem?_setIfInBounds, if_neg (Ne.symm hi)]⟩
theorem run_update {w : World} {s : List UInt8} {v : Value} {l : List ME} {c bm : Nat} (T : TyM P t kt et zero) (h : w.heap[bm]? = some (mobj l c)) :
    (Instr.mapUpdate t (.map (some bm)) (sv s) v).run P w = .ok () { w with heap := w.heap.setIfInBounds bm (mobj (mset s v c l) (mclk s c l)) } := by
  unfold Instr.mapUpdate
  simp only [Sem.run_bind, run_underlying T.und, Result.andThen_ok, MapKept.run_getObj_map h, run_check_map T, List.toList_toArray, run_find_map T]
  cases hf : mfindI s l 0 with
  | none =>
    have h1 := mfindI_none hf
    simp only [MapKept.run_setObj_map _ h]
    rw [mset_new h1]
    simp [mclk, h1, mobj, ment]
  | some p =>
    obtain ⟨j, u⟩ := p
    have h1 := mfindI_some hf
    obtain ⟨h0, e, he, hes, hm⟩ := mset_found (v := v) (c := c) hf
    rw [Nat.sub_zero] at he hm
    have hk : ((((l.map ment).toArray)[j]?).map (·.key)).getD (sv s) = sv s := by
      rw [List.getElem?_toArray, List.getElem?_map, he]
      simp [ment, hes]
    have hst : (Instr.keyThatStays (sv s) (sv s)).run P w = .ok (sv s) w := by
      unfold Instr.keyThatStays
      have : Instr.sameBits 10000 (sv s) (sv s) = true := by
        show (s.toArray == s.toArray) = true
        exact beq_self_eq_true _
      simp [this]
    simp only [Sem.run_bind, hk, hst, Result.andThen_ok, MapKept.run_setObj_map _ h]
    congr 2
    simp only [mobj, mclk, h1, hm]
    congr 2
    apply Array.ext'
    simp
theorem OpsW.mapUpdate {s : List UInt8} {v : Value} {l : List ME} {c bm : Nat} (T : TyM P t kt et zero) (hx : ev F x = some (.map (some bm))) (hy : ev F y = some (sv s)) (hz : ev F z = some v)
    (hu : Upd H bm (mobj l c) (mobj (mset s v c l) (mclk s c l)) H') (h : OpsW P n K G w0 ops rest R F H') :
    OpsW P n K G w0 ops (⟨none, .mapUpdate t x y z, ty, pos, after, none⟩ :: rest) R F H :=
  OpsW.write (fun a w hs _ hb => ⟨_, by simp [execOp, hs.ev hx, hs.ev hy, hs.ev hz, run_update T hb], set_wrote hb⟩) hu h
theorem run_delete {w : World} {s : List UInt8} {l : List ME} {c bm : Nat} {t2 : TypeId} (T : TyM P t kt et zero) (h : w.heap[bm]? = some (mobj l c)) :
    (Builtin.delete_ #[t, t2] ty #[.map (some bm), sv s]).run P w = .ok (.tuple #[]) { w with heap := w.heap.setIfInBounds bm (mobj (mdel s l) c) } := by
  unfold Builtin.delete_
  simp only [List.getElem?_toArray, List.getElem?_cons_zero, List.getElem?_cons_succ, Sem.run_bind, run_underlying T.und, Result.andThen_ok, MapKept.run_getObj_map h, run_check_map T, List.toList_toArray, run_find_map T]
  cases hf : mfindI s l 0 with
  | none =>
    simp only [Sem.run_bind, MapKept.run_setObj_map _ h, Result.andThen_ok, mdel_none (mfindI_none hf)]
    rfl
  | some p =>
    obtain ⟨j, u⟩ := p
    obtain ⟨_, h2⟩ := mdel_found hf
    rw [Nat.sub_zero] at h2
    have he : ((l.map ment).toArray.eraseIdxIfInBounds j) = ((mdel s l).map ment).toArray := by
      rw [h2]
      apply Array.ext'
      simp
    simp only [Sem.run_bind, MapKept.run_setObj_map _ h, Result.andThen_ok, he]
    rfl
theorem OpsW.delete {s : List UInt8} {l : List ME} {c bm dd : Nat} {t2 : TypeId} (T : TyM P t kt et zero) (hx : ev F x = some (.map (some bm))) (hy : ev F y = some (sv s))
    (hu : Upd H bm (mobj l c) (mobj (mdel s l) c) H') (hd : Nat.blt dd n = true) (h : OpsW P n K G w0 ops rest R ((dd, .tuple #[]) :: F) H') :
    OpsW P n K G w0 ops (⟨some dd, .call { callee := .builtin .delete, args := #[x, y], argTypes := #[t, t2] }, ty, pos, after, none⟩ :: rest) R F H :=
  fun a w Qx r hq => wpList_any (by
    have hb := r.blocks _ hu.mem
    have hr : (execOp a.eval ⟨some dd, .call { callee := .builtin .delete, args := #[x, y], argTypes := #[t, t2] }, ty, pos, after, none⟩).run P w = .ok (.value (.tuple #[])) { w with heap := w.heap.setIfInBounds bm (mobj (mdel s l) c) } := by
      simp [execOp, resolve, r.slots.ev hx, r.slots.ev hy, invoke, builtin, run_delete T hb]
    unfold Oper.wp
    rw [hr]
    exact h _ _ _ ((r.wrote hu (set_wrote hb)).put (of_decide_eq_true (by simpa using hd))) hq)
theorem OpsW.delete0 {s : List UInt8} {l : List ME} {c bm : Nat} {t2 : TypeId} (T : TyM P t kt et zero) (hx : ev F x = some (.map (some bm))) (hy : ev F y = some (sv s))
    (hu : Upd H bm (mobj l c) (mobj (mdel s l) c) H') (h : OpsW P n K G w0 ops rest R F H') :
    OpsW P n K G w0 ops (⟨none, .call { callee := .builtin .delete, args := #[x, y], argTypes := #[t, t2] }, ty, pos, after, none⟩ :: rest) R F H :=
  fun a w Qx r hq => wpList_any (by
    have hb := r.blocks _ hu.mem
    have hr : (execOp a.eval ⟨none, .call { callee := .builtin .delete, args := #[x, y], argTypes := #[t, t2] }, ty, pos, after, none⟩).run P w = .ok (.value (.tuple #[])) { w with heap := w.heap.setIfInBounds bm (mobj (mdel s l) c) } := by
      simp [execOp, resolve, r.slots.ev hx, r.slots.ev hy, invoke, builtin, run_delete T hb]
    unfold Oper.wp
    rw [hr]
    exact h _ _ _ (r.wrote hu (set_wrote hb)) hq)
/-! ### Ranges -/
/-- The iterator's block: the stamps that have been seen. -/
def iobj (bm since : Nat) (seen : List Nat) (last : Nat) : Obj := .mapIter (some bm) since seen.toArray last
theorem fr_range {l : List ME} {c bm : Nat} (hu : P.underlying t = some (.map kt et)) (hx : ev F x = some (.map (some bm))) (hm : (bm, mobj l c) ∈ H ∨ (bm, mobj l c) ∈ G) :
    New P K G w0 ⟨d, .range t x, ty, pos, after, g⟩ F H (fun p => .pointer (some ⟨p.1, 0, none⟩)) (fun p => [(p.1, iobj bm c [] c)]) (fun _ => True) :=
  fun a w hs hb ho next Qx hn => by
    have hr : (execOp a.eval ⟨d, .range t x, ty, pos, after, g⟩).run P w = .ok (.value (.pointer (some ⟨w.heap.size, 0, none⟩))) (w.alloc (iobj bm c [] c)) := by
      simp [execOp, hs.ev hx, Instr.range, run_underlying hu, newObj, Sem.run, World.alloc_eq, iobj, MapKept.run_getObj_map (show w.heap[bm]? = some (.map (l.map ment).toArray c) from hm.elim (fun h => hb _ h) (fun h => ho.look h))]
    unfold Oper.wp
    rw [hr]
    refine hn (w.heap.size, 0, []) _ trivial (below_alloc w _) ?_ (by simp) (by simp)
    intro p hp
    simp only [List.mem_singleton] at hp
    subst hp
    show (w.heap.push _)[w.heap.size]? = some _
    simp
theorem filter_ment (seen : List Nat) (l : List ME) : ((l.map ment).toArray.filter fun e => !seen.toArray.contains e.born) = ((l.filter fun e => !seen.contains e.2.2).map ment).toArray := by
  apply Array.ext'
  simp only [Array.toList_filter, List.filter_map, Function.comp_def, ment, List.contains_toArray]
/-- The next entry, whichever the tape says. -/
theorem OpsW.next {l : List ME} {c bm it since last dd : Nat} {seen : List Nat} (hx : ev F x = some (.pointer (some ⟨it, 0, none⟩))) (hm : (bm, mobj l c) ∈ H ∨ (bm, mobj l c) ∈ G) (hi : (it, iobj bm since seen last) ∈ H)
    (hold : ∀ e ∈ l, e.2.2 < since) (hsl : since ≤ last) (hd : Nat.blt dd n = true)
    (hend : (∀ e ∈ l, e.2.2 ∈ seen) → OpsW P n K G w0 ops rest R ((dd, .tuple #[.bool false]) :: F) H)
    (hmore : ∀ e ∈ l, e.2.2 ∉ seen → ∃ H', Upd H it (iobj bm since seen last) (iobj bm since (seen ++ [e.2.2]) c) H' ∧ OpsW P n K G w0 ops rest R ((dd, .tuple [.bool true, sv e.1, e.2.1].toArray) :: F) H') :
    OpsW P n K G w0 ops (⟨some dd, .next x false, ty, pos, after, none⟩ :: rest) R F H := by
  intro a w Qx r hq
  refine wpList_any ?_
  have hdn : dd < n := of_decide_eq_true (by simpa using hd)
  have hbm : w.heap[bm]? = some (.map (l.map ment).toArray c) := hm.elim (fun h => r.blocks _ h) (fun h => r.old.look h)
  have hit : w.heap[it]? = some (.mapIter (some bm) since seen.toArray last) := r.blocks _ hi
  have hget : (getObj it).run P w = .ok (.mapIter (some bm) since seen.toArray last) w := by simp [getObj, Sem.run, hit]
  have htest : (!seen.toArray.isEmpty && !(l.map ment).toArray.isEmpty && (l.map ment).toArray.all (fun x => decide (x.born ≥ last))) = false :=
    next_test_false _ _ since last (fun x hx => by
      simp only [List.toList_toArray, List.mem_map] at hx
      obtain ⟨e, he, rfl⟩ := hx
      exact hold e he) hsl
  have hf := filter_ment seen l
  generalize hL : (l.filter fun e => !seen.contains e.2.2) = L at hf
  have hLm : ∀ e, e ∈ L ↔ e ∈ l ∧ e.2.2 ∉ seen := fun e => by rw [← hL]; simp [List.mem_filter]
  have e1 : ((L.map ment).toArray.filter fun x => decide (x.born < since)) = (L.map ment).toArray := Array.filter_eq_self.2 (fun x hx => by
    simp only [List.mem_toArray, List.mem_map] at hx
    obtain ⟨e, he, rfl⟩ := hx
    exact decide_eq_true (hold e ((hLm e).1 he).1))
  have e2 : ((L.map ment).toArray.filter fun x => decide (x.born ≥ since)) = #[] := by
    rw [Array.filter_eq_empty_iff]
    intro x hx
    simp only [List.mem_toArray, List.mem_map] at hx
    obtain ⟨e, he, rfl⟩ := hx
    have := hold e ((hLm e).1 he).1
    simp [ment]; omega
  have hrun : (execOp a.eval ⟨some dd, .next x false, ty, pos, after, none⟩).run P w =
      (Result.andThen ((do
        let candidates := (if (L.map ment).toArray.isEmpty then #[none] else #[]) ++ ((L.map ment).toArray).map some
        match candidates[← choose (.mapNext candidates.size)]? with
        | some (some e) =>
          setObj it (.mapIter (some bm) since (seen.toArray.push e.born) c)
          pure (.tuple #[.bool true, e.key, e.val])
        | some none => pure (.tuple #[.bool false])
        | none => stuck "Next: no such candidate" : Sem Value).run P w) fun v w' => .ok (.value v) w') := by
    simp only [execOp, r.slots.ev hx, Instr.next, Sem.run_bind, hget, Result.andThen_ok, MapKept.run_getObj_map hbm, htest, hf, e1, e2, Bool.false_eq_true, if_false, Array.append_empty, Sem.run_pure]
    rfl
  unfold Oper.wp
  rw [hrun]
  cases hE : L with
  | nil =>
    have hall : ∀ e ∈ l, e.2.2 ∈ seen := fun e he => Classical.byContradiction fun hn => by
      have := (hLm e).2 ⟨he, hn⟩
      rw [hE] at this
      cases this
    have : (Result.andThen ((do
        let candidates := (if (([] : List ME).map ment).toArray.isEmpty then #[none] else #[]) ++ ((([] : List ME).map ment).toArray).map some
        match candidates[← choose (.mapNext candidates.size)]? with
        | some (some e) =>
          setObj it (.mapIter (some bm) since (seen.toArray.push e.born) c)
          pure (.tuple #[.bool true, e.key, e.val])
        | some none => pure (.tuple #[.bool false])
        | none => stuck "Next: no such candidate" : Sem Value).run P w) fun v w' => Result.ok (Next.value v) w') = .ok (.value (.tuple #[.bool false])) w := by
      simp [choose, Sem.run, Question.forced]
    rw [this]
    exact hend hall _ _ _ (r.put hdn) hq
  | cons e0 L0 =>
    have hne : ((e0 :: L0).map ment).toArray.isEmpty = false := rfl
    simp only [hne, Bool.false_eq_true, if_false, Array.empty_append, Array.size_map, List.size_toArray, List.length_map]
    rw [← hE]
    have hpos : 0 < L.length := by rw [hE]; exact Nat.succ_pos _
    have hch : ∃ (j : Nat) (w1 : World), j < L.length ∧ w1.heap = w.heap ∧ w1.os = w.os ∧ w1.tape = w.tape ∧ w1.output = w.output ∧ (choose (Question.mapNext L.length)).run P w = .ok j w1 := by
      by_cases hf : L.length ≤ 1
      · exact ⟨0, w, hpos, rfl, rfl, rfl, rfl, by simp [choose, Sem.run, Question.forced, hf]⟩
      · exact ⟨_, w.drew, Nat.mod_lt _ hpos, rfl, rfl, rfl, rfl, by
          simp only [choose, Sem.run, Question.forced, decide_eq_true_eq, hf, if_false, Question.cut]
          rfl⟩
    obtain ⟨j, w1, hj, hw1, ho1, ht1, hp1, hch⟩ := hch
    have hset : (setObj it (.mapIter (some bm) since (seen.toArray.push (ment L[j]).born) c)).run P w1 = .ok () { w1 with heap := w1.heap.setIfInBounds it (.mapIter (some bm) since (seen.toArray.push (ment L[j]).born) c) } := by
      have : w1.heap[it]? = some (.mapIter (some bm) since seen.toArray last) := by rw [hw1]; exact hit
      simp [setObj, Sem.run, this]
    have hmem := (hLm L[j]).1 (List.getElem_mem hj)
    obtain ⟨H', hu, hgo⟩ := hmore L[j] hmem.1 hmem.2
    have hcand : ((L.map ment).toArray.map some)[j]? = some (some (ment L[j])) := by
      simp [hj]
    simp only [Sem.run_bind, hch, Result.andThen_ok, hcand, hset, Sem.run_pure]
    have hw : Wrote w { w1 with heap := w1.heap.setIfInBounds it (.mapIter (some bm) since (seen.toArray.push (ment L[j]).born) c) } it (iobj bm since (seen ++ [L[j].2.2]) c) := by
      have h0 : (Obj.mapIter (some bm) since (seen.toArray.push (ment L[j]).born) c) = iobj bm since (seen ++ [L[j].2.2]) c := by
        unfold iobj
        congr 1
        apply Array.ext'
        simp [ment]
      rw [h0]
      have hs := set_wrote (o' := iobj bm since (seen ++ [L[j].2.2]) c) (hw1 ▸ hit : w1.heap[it]? = _)
      exact ⟨hs.os.trans ho1, hs.tape.trans ht1, hs.output.trans hp1, by rw [hs.size, hw1], hs.at_, fun i hi => by rw [hs.other i hi, hw1]⟩
    exact hgo _ _ _ ((r.wrote hu hw).put hdn) hq
end
end Go.Vm
