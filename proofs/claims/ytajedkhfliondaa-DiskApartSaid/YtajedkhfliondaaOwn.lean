/-
  Slices that are owned, bytes that are read, tests against nil, the least and the greatest, in the logic of partial frames and heaps.
  Conditions: none; it is a library of lemmas over any program.
-/
import Derived.Test.YtajedkhfliondaaMap
namespace Go.Vm
open Go Go.RowKit
set_option linter.unusedVariables false
set_option linter.unusedSimpArgs false
set_option linter.unusedSectionVars false

section
variable {P : Program} {n : Nat} {K : List Nat} {G : Hp} {w0 : World} {F : Fr} {H H' : Hp} {ops : Array Oper} {rest : List Oper} {R : Fr → Hp → Prop} {ty : TypeId} {pos : String} {after : Array Edge} {x y z : Operand} {d : Option Tmp} {g : Option (Nat × Bool)}
/-! ### Small operations -/
theorem det_nilCheck {a : Addr} (hx : ev F x = some (.pointer (some a))) : Det P K G w0 ⟨d, .nilCheck x, ty, pos, after, g⟩ F H (.pointer (some a)) :=
  det_run fun a w hs _ _ => by simp [execOp, hs.ev hx]
theorem det_max {k : IntKind} {a b : Int} {t1 t2 : TypeId} (hx : ev F x = some (.int k a)) (hy : ev F y = some (.int k b)) :
    Det P K G w0 ⟨d, .call { callee := .builtin .max, args := #[x, y], argTypes := #[t1, t2] }, ty, pos, after, g⟩ F H (.int k (max a b)) :=
  det_run fun a w hs _ _ => by
    simp [execOp, hs.ev hx, hs.ev hy, resolve, invoke, builtin, Builtin.max_, Builtin.max2]
    omega
theorem det_min {k : IntKind} {a b : Int} {t1 t2 : TypeId} (hx : ev F x = some (.int k a)) (hy : ev F y = some (.int k b)) :
    Det P K G w0 ⟨d, .call { callee := .builtin .min, args := #[x, y], argTypes := #[t1, t2] }, ty, pos, after, g⟩ F H (.int k (min a b)) :=
  det_run fun a w hs _ _ => by
    simp [execOp, hs.ev hx, hs.ev hy, resolve, invoke, builtin, Builtin.min_, Builtin.min2]
    omega
theorem run_eqlS {xt : TypeId} {ad : Option Addr} {l c : Nat} {z : Value} {b : Bool} {w : World} (h : (Op.equalIn 10000 xt (.slice ad l c) z).run P w = .ok b w) : (binOp .eql xt (.slice ad l c) z).run P w = .ok (.bool b) w := by
  have : (Op.equal xt (.slice ad l c) z).run P w = .ok b w := h
  simp [binOp, this]
theorem run_eqlP {xt : TypeId} {ad : Option Addr} {b : Bool} {w : World} (h : (Op.equalIn 10000 xt (.pointer ad) (.pointer none)).run P w = .ok b w) : (binOp .eql xt (.pointer ad) (.pointer none)).run P w = .ok (.bool b) w := by
  have : (Op.equal xt (.pointer ad) (.pointer none)).run P w = .ok b w := h
  simp [binOp, this]
theorem run_neqP {xt : TypeId} {ad : Option Addr} {b : Bool} {w : World} (h : (Op.equalIn 10000 xt (.pointer ad) (.pointer none)).run P w = .ok b w) : (binOp .neq xt (.pointer ad) (.pointer none)).run P w = .ok (.bool !b) w := by
  have : (Op.equal xt (.pointer ad) (.pointer none)).run P w = .ok b w := h
  simp [binOp, this]
theorem eq_nilSl {t el : TypeId} {ad : Option Addr} {l c e : Nat} {w : World} (hu : P.underlying t = some (.slice el)) : (Op.equalIn (e + 1) t (.slice ad l c) (.slice none 0 0)).run P w = .ok ad.isNone w := by
  cases ad <;> simp [Op.equalIn, run_underlying hu]
theorem eq_nilPtr {t el : TypeId} {ad : Option Addr} {e : Nat} {w : World} (hu : P.underlying t = some (.pointer el)) : (Op.equalIn (e + 1) t (.pointer ad) (.pointer none)).run P w = .ok ad.isNone w := by
  cases ad <;> simp [Op.equalIn, run_underlying hu]
theorem guardS {op : BinOp} {t : TypeId} {x y : Operand} {ad : Option Addr} {l c : Nat} {v : Value} {w : World} : (eqGuard op t x y (.slice ad l c) v).run P w = .ok () w := by
  unfold eqGuard
  cases op <;> simp
theorem guardP {op : BinOp} {t : TypeId} {x y : Operand} {ad : Option Addr} {v : Value} {w : World} : (eqGuard op t x y (.pointer ad) v).run P w = .ok () w := by
  unfold eqGuard
  cases op <;> simp
/-- A slice against nil. -/
theorem det_nilSl {t el : TypeId} {ad : Option Addr} {l c : Nat} (hu : P.underlying t = some (.slice el)) (hx : ev F x = some (.slice ad l c)) (hy : ev F y = some (.slice none 0 0)) :
    Det P K G w0 ⟨d, .binOp .eql t x y t, ty, pos, after, g⟩ F H (.bool ad.isNone) :=
  det_bin hx hy (fun w => guardS) fun w => run_eqlS (eq_nilSl hu)
/-- A pointer against nil. -/
theorem det_nilPtr {t el : TypeId} {ad : Option Addr} (hu : P.underlying t = some (.pointer el)) (hx : ev F x = some (.pointer ad)) (hy : ev F y = some (.pointer none)) :
    Det P K G w0 ⟨d, .binOp .eql t x y t, ty, pos, after, g⟩ F H (.bool ad.isNone) :=
  det_bin hx hy (fun w => guardP) fun w => run_eqlP (eq_nilPtr hu)
theorem det_nnilPtr {t el : TypeId} {ad : Option Addr} (hu : P.underlying t = some (.pointer el)) (hx : ev F x = some (.pointer ad)) (hy : ev F y = some (.pointer none)) :
    Det P K G w0 ⟨d, .binOp .neq t x y t, ty, pos, after, g⟩ F H (.bool !ad.isNone) :=
  det_bin hx hy (fun w => guardP) fun w => run_neqP (eq_nilPtr hu)
/-- s[:h:h]. -/
theorem det_slice3 {t el s : Nat} {ad : Option Addr} {len cap h : Nat} {k k' : IntKind} (hu : P.underlying t = some (.slice el)) (hs0 : sizeIn P el = some s) (hx : ev F x = some (.slice ad len cap))
    (hy : ev F y = some (.int k (h : Int))) (hz : ev F z = some (.int k' (h : Int))) (h2 : h ≤ cap) (had : ∀ a, ad = some a → a.spot = none) :
    Det P K G w0 ⟨d, .slice t x none (some y) (some z), ty, pos, after, g⟩ F H (.slice ad h h) :=
  det_run fun a w hs _ _ => by
    have e0 : ∀ a : Addr, a.spot = none → a.add 0 = a := fun a ha => by
      obtain ⟨b, o, sp⟩ := a
      have : sp = none := ha
      subst this
      exact add_off b o 0
    cases ad with
    | none => simp [execOp, hs.ev hx, hs.ev hy, hs.ev hz, Instr.sliceAt, Instr.slice, run_underlying hu, Instr.sliceBounds, Instr.sliceBound, asIntOf, run_sizeOf hs0, h2]
    | some a0 =>
      have := e0 a0 (had a0 rfl)
      by_cases hh : h = 0
      · subst hh; simp [execOp, hs.ev hx, hs.ev hy, hs.ev hz, Instr.sliceAt, Instr.slice, run_underlying hu, Instr.sliceBounds, Instr.sliceBound, asIntOf, run_sizeOf hs0]
      · simp [execOp, hs.ev hx, hs.ev hy, hs.ev hz, Instr.sliceAt, Instr.slice, run_underlying hu, Instr.sliceBounds, Instr.sliceBound, asIntOf, run_sizeOf hs0, h2, hh, this]
/-- s[:h]. -/
theorem det_sliceTo {t el s : Nat} {ad : Option Addr} {len cap h : Nat} {k : IntKind} (hu : P.underlying t = some (.slice el)) (hs0 : sizeIn P el = some s) (hx : ev F x = some (.slice ad len cap))
    (hy : ev F y = some (.int k (h : Int))) (h2 : h ≤ cap) (had : ∀ a, ad = some a → a.spot = none) :
    Det P K G w0 ⟨d, .slice t x none (some y) none, ty, pos, after, g⟩ F H (.slice ad h cap) :=
  det_run fun a w hs _ _ => by
    have e0 : ∀ a : Addr, a.spot = none → a.add 0 = a := fun a ha => by
      obtain ⟨b, o, sp⟩ := a
      have : sp = none := ha
      subst this
      exact add_off b o 0
    cases ad with
    | none => simp [execOp, hs.ev hx, hs.ev hy, Instr.sliceAt, Instr.slice, run_underlying hu, Instr.sliceBounds, Instr.sliceBound, asIntOf, run_sizeOf hs0, h2]
    | some a0 =>
      have := e0 a0 (had a0 rfl)
      by_cases hh : cap = 0
      · subst hh
        have : h = 0 := by omega
        subst this
        simp [execOp, hs.ev hx, hs.ev hy, Instr.sliceAt, Instr.slice, run_underlying hu, Instr.sliceBounds, Instr.sliceBound, asIntOf, run_sizeOf hs0]
      · simp [execOp, hs.ev hx, hs.ev hy, Instr.sliceAt, Instr.slice, run_underlying hu, Instr.sliceBounds, Instr.sliceBound, asIntOf, run_sizeOf hs0, h2, hh, this]
/-- The entry that the last step handed out. -/
theorem det_entry {l : List ME} {c bm it since : Nat} {seen : List Nat} {e : ME} (hx : ev F x = some (.pointer (some ⟨it, 0, none⟩))) (hm : (bm, mobj l c) ∈ H ∨ (bm, mobj l c) ∈ G) (hi : (it, iobj bm since (seen ++ [e.2.2]) c) ∈ H)
    (hn : (l.map (·.2.2)).Nodup) (he : e ∈ l) : Det P K G w0 ⟨d, .entry x, ty, pos, after, g⟩ F H (.tuple [sv e.1, e.2.1].toArray) :=
  det_run fun a w hs hb ho => by
    have hbm : w.heap[bm]? = some (.map (l.map ment).toArray c) := hm.elim (fun h => hb _ h) (fun h => ho.look h)
    have hit : w.heap[it]? = some (.mapIter (some bm) since (seen ++ [e.2.2]).toArray c) := hb _ hi
    have hget : (getObj it).run P w = .ok (.mapIter (some bm) since (seen ++ [e.2.2]).toArray c) w := by simp [getObj, Sem.run, hit]
    have hf : (l.map ment).find? (·.born == e.2.2) = some (ment e) := find_born (ment e) (l.map ment) (by simpa [Function.comp_def, ment] using hn) (List.mem_map.2 ⟨e, he, rfl⟩)
    simp [execOp, hs.ev hx, Instr.entry, hget, MapKept.run_getObj_map hbm, hf, ment]

/-! ### Slices that are owned -/
/-- A slice that is owned: without room, or at the head of a block of its own. -/
inductive Own (el : TypeId) : Option Addr → Nat → Nat → Hp → List Value → Prop
  | none {ad : Option Addr} (h0 : ∀ a, ad = some a → a.spot = none) : Own el ad 0 0 [] []
  | at_ {b len cap : Nat} {xs spare : List Value} (h0 : xs.length = len) (h1 : len ≤ cap) (h2 : cap ≤ (xs ++ spare).length) (h3 : cap ≤ maxLen) : Own el (some ⟨b, 0, .none⟩) len cap [(b, blk (xs ++ spare) el)] xs
theorem Own.len {el : TypeId} {ad : Option Addr} {len cap : Nat} {hp : Hp} {xs : List Value} (h : Own el ad len cap hp xs) : xs.length = len := by
  cases h with
  | none => rfl
  | at_ h0 => exact h0
theorem Own.cap {el : TypeId} {ad : Option Addr} {len cap : Nat} {hp : Hp} {xs : List Value} (h : Own el ad len cap hp xs) : len ≤ cap := by
  cases h with
  | none => exact Nat.le_refl _
  | at_ _ h1 => exact h1
theorem Own.spot {el : TypeId} {ad : Option Addr} {len cap : Nat} {hp : Hp} {xs : List Value} (h : Own el ad len cap hp xs) : ∀ a, ad = some a → a.spot = .none := by
  cases h with
  | none h0 => exact h0
  | at_ => intro a ha; cases ha; rfl
/-- The first h elements, without room. -/
theorem Own.take {el : TypeId} {ad : Option Addr} {len cap : Nat} {hp : Hp} {xs : List Value} (h : Own el ad len cap hp xs) {k : Nat} (hk : k ≤ len) : Own el ad k k hp (xs.take k) := by
  cases h with
  | none h0 =>
    have : k = 0 := by omega
    subst this
    exact .none h0
  | @at_ b _ _ _ spare h0 h1 h2 h3 =>
    have e : xs ++ spare = xs.take k ++ (xs.drop k ++ spare) := by rw [← List.append_assoc, List.take_append_drop]
    rw [e]
    exact .at_ (by rw [List.length_take]; omega) (Nat.le_refl _) (by simp; omega) (by omega)
theorem Own.of_sl {el : TypeId} {v : Value} {len : Nat} {hp : Hp} {xs : List Value} (h : IsSl el 1 v len hp xs) : ∃ ad cap, v = .slice ad len cap ∧ Own el ad len cap hp xs := by
  cases h with
  | nil => exact ⟨.none, 0, rfl, .none (fun a h => by cases h)⟩
  | at_ h1 h2 h3 =>
    rename_i b cap spare
    exact ⟨_, _, rfl, .at_ (by omega) (by simp only [List.length_append] at h2; omega) (by omega) h3⟩
/-- What stands in the source of an append. -/
def Src (H G : Hp) (ad : Option Addr) (m : Nat) (news : List Value) : Prop :=
  news.length = m ∧ (m = 0 ∨ ∃ (b o : Nat) (cs : List Value) (e : TypeId) (fr : Nat × Nat), ad = some ⟨b, o, none⟩ ∧ ((b, Obj.cells cs.toArray e fr) ∈ H ∨ (b, Obj.cells cs.toArray e fr) ∈ G) ∧ ∀ j u, news[j]? = some u → cs[o + j]? = some u)
theorem OpsW.appendOwn {dd : Nat} {t el bytes : Nat} {zs : List Value} (T : TyS P t el 1 bytes zs) {ad ad2 : Option Addr} {len cap m c : Nat} {hp : Hp} {xs news : List Value}
    (hx : ev F x = some (.slice ad len cap)) (hv : Own el ad len cap hp xs) (hy : ev F y = some (.slice ad2 m c)) (hsrc : Src (hp ++ H) G ad2 m news) (h1 : news.all (·.oneCell') = true)
    (h63 : len + m ≤ maxLen) (hbytes : (len + m) * bytes ≤ 140737488355328) (hd : Nat.blt dd n = true)
    (h : ∀ ad' cap' hp', Own el ad' (len + m) cap' hp' (xs ++ news) → OpsW P n K G w0 ops rest R ((dd, .slice ad' (len + m) cap') :: F) (hp' ++ H)) :
    OpsW P n K G w0 ops (⟨some dd, .call { callee := .builtin .append, args := #[x, y], argTypes := #[t, t] }, ty, pos, after, none⟩ :: rest) R F (hp ++ H) := by
  intro a w Qx r hq
  refine wpList_any ?_
  have hdn : dd < n := of_decide_eq_true (by simpa using hd)
  obtain ⟨i, z, hi, hz, hsz, hby, hzc⟩ := T.info
  subst hby
  have hzs : z.cells.size = i.size := by rw [hzc, hsz]; simp [T.len]
  have hsmall : len + m ≤ 9223372036854775807 := by simp only [maxLen] at h63; omega
  obtain ⟨hl, hsrc⟩ := hsrc
  have hrun : ∀ {u w'}, (Builtin.append_ #[t, t] ty #[.slice ad len cap, .slice ad2 m c]).run P w = .ok u w' →
      (execOp a.eval ⟨some dd, .call { callee := .builtin .append, args := #[x, y], argTypes := #[t, t] }, ty, pos, after, none⟩).run P w = .ok (.value u) w' := fun hr => by
    simp [execOp, resolve, r.slots.ev hx, r.slots.ev hy, invoke, builtin, hr]
  unfold Oper.wp
  rcases Nat.eq_zero_or_pos m with hm0 | hm0
  · -- nothing
    subst hm0
    have hn : news = [] := List.eq_nil_of_length_eq_zero hl
    subst hn
    have hcap := hv.cap
    have hr : (Builtin.append_ #[t, t] ty #[.slice ad len cap, .slice ad2 0 c]).run P w = .ok (.slice ad len cap) w := by
      cases ad <;> cases ad2 <;> simp [Builtin.append_, run_underlying T.und, sizeOf, typeInfo, hi, Builtin.lenOf, Builtin.firstCells, loadCells, loadCellsFrom, storeCells, hcap]
    rw [hrun hr]
    have := h ad cap hp (by simpa using hv)
    exact this _ _ _ (r.put hdn) hq
  · obtain ⟨b, o, cs, e, fr, rfl, hm, hnews⟩ := hsrc.resolve_left (by omega)
    have hcell : ∀ j u, news[j]? = some u → w.cell? ((⟨b, o, none⟩ : Addr).add j) = some u := fun j u hj => by
      rw [add_off]
      rcases hm with hm | hm
      · rw [cell_blk (r.blocks _ hm)]; exact hnews j u hj
      · rw [cell_blk (r.old.look hm)]; exact hnews j u hj
    have hl' : news.length = m * i.size := by rw [hsz]; omega
    have hlen : (xs ++ news).length = len + m := by rw [List.length_append, hv.len, hl]
    have grown : ∀ (old : Nat), (Builtin.append_ #[t, t] ty #[.slice ad len cap, .slice (some ⟨b, o, none⟩) m c]).run P w = .ok (.slice (some ⟨w.heap.size, 0, none⟩) (len + m) (grownCap w (len + m) old el))
        (w.drew.alloc (.cells (xs.toArray ++ news.toArray ++ Builtin.zeroCells z.cells (grownCap w (len + m) old el - (len + m))) el)) →
        Oper.upon P ⟨some dd, .call { callee := .builtin .append, args := #[x, y], argTypes := #[t, t] }, ty, pos, after, none⟩ a (wpList P ops Qx rest) Qx
          ((execOp a.eval ⟨some dd, .call { callee := .builtin .append, args := #[x, y], argTypes := #[t, t] }, ty, pos, after, none⟩).run P w) := by
      intro old hr
      rw [hrun hr]
      have hge := grownCap_ge w (len + m) old el
      have hcm := grownCap_le_maxLen w (len + m) old el h63
      have hsl : Own el (some ⟨w.heap.size, 0, none⟩) (len + m) (grownCap w (len + m) old el)
          [(w.heap.size, blk ((xs ++ news) ++ (Builtin.zeroCells z.cells (grownCap w (len + m) old el - (len + m))).toList) el)] (xs ++ news) := by
        refine .at_ hlen hge ?_ hcm
        rw [List.length_append, hlen, Array.length_toList, size_zeroCells, hzs, hsz]
        omega
      have hb : Below w.heap.size w (w.drew.alloc (.cells (xs.toArray ++ news.toArray ++ Builtin.zeroCells z.cells (grownCap w (len + m) old el - (len + m))) el)) :=
        ((Below.refl _ _).drew).alloc (Nat.le_refl _) _
      have hR := (r.less (H' := H) (List.sublist_append_right _ _)).new (d := dd) (v := .slice (some ⟨w.heap.size, 0, none⟩) (len + m) (grownCap w (len + m) old el)) hdn hb
        (H' := [(w.heap.size, blk ((xs ++ news) ++ (Builtin.zeroCells z.cells (grownCap w (len + m) old el - (len + m))).toList) el)]) (by
          intro p hp
          simp only [List.mem_singleton] at hp
          subst hp
          show (w.drew.heap.push _)[w.heap.size]? = some _
          have : w.drew.heap.size = w.heap.size := rfl
          rw [← this, Array.getElem?_push_size]
          congr 2
          apply Array.ext'
          simp) (by simp) (by simp)
      exact h _ _ _ hsl _ _ _ hR hq
    cases hv with
    | none h0 =>
      cases ad with
      | none =>
        have hr := run_append_nil (P := P) w t ty el i z T.und hi hz ⟨b, o, none⟩ m c news hl' hcell (by omega) (by omega) (by have hb := hbytes; simp only [Nat.zero_add] at hb; omega)
        refine grown 0 ?_
        simp only [Nat.zero_add, Array.empty_append]
        exact hr
      | some a0 =>
        exact grown 0 (run_append_grow (P := P) w t ty el i z T.und hi hz a0 0 0 [] (by simp) (fun j u hj => by simp at hj) ⟨b, o, none⟩ m c news hl' hcell (by omega) (by omega) (growslice_fits (by omega) hbytes))
    | @at_ gb _ _ _ spare h0' h1' h2' h3' =>
      have hg := r.blocks (gb, blk (xs ++ spare) el) (by simp)
      by_cases hroom : len + m ≤ cap
      · have hfit : len * i.size + news.length ≤ (xs ++ spare).toArray.size := by
          rw [List.size_toArray, hsz, hl]; omega
        have hr := run_append_room (P := P) (ty := ty) w t el i T.und hi gb len cap (xs ++ spare).toArray hg ⟨b, o, none⟩ m c news hl' hcell (fun u hu => (List.all_eq_true.1 h1) u hu) hroom hfit
        rw [hrun hr]
        have e1 : ((xs ++ spare).toArray.toList.take (len * i.size) ++ news ++ (xs ++ spare).toArray.toList.drop (len * i.size + news.length)).toArray = ((xs ++ news) ++ spare.drop news.length).toArray := by
          simp [hsz, ← h0', List.drop_append]
        rw [e1]
        have hsl : Own el (some ⟨gb, 0, none⟩) (len + m) cap [(gb, blk ((xs ++ news) ++ spare.drop news.length) el)] (xs ++ news) := by
          refine .at_ hlen hroom ?_ h3'
          simp only [List.length_append, List.length_drop] at h2' ⊢
          omega
        exact h _ _ _ hsl _ _ _ ((r.wrote (H' := (gb, blk ((xs ++ news) ++ spare.drop news.length) el) :: H) (.here (H := H)) (setRow_wrote hg)).put hdn) hq
      · have holds : ∀ j u, xs[j]? = some u → w.cell? ((⟨gb, 0, none⟩ : Addr).add j) = some u := fun j u hj => by
          rw [add_off, cell_blk hg, Nat.zero_add, List.getElem?_append_left (List.getElem?_eq_some_iff.1 hj).1]; exact hj
        exact grown cap (run_append_grow (P := P) w t ty el i z T.und hi hz ⟨gb, 0, none⟩ len cap xs (by rw [hsz]; omega) holds ⟨b, o, none⟩ m c news hl' hcell (by omega) (by omega) (growslice_fits (by omega) hbytes))
/-! ### Calls that change the heap's rest -/
theorem OpsW.changeT {dd : Nat} {f : FuncId} {xs : List Operand} {ats : Array TypeId} {vs : List Value} {Hl Hd : Hp} {S : Value → Hp → Prop} (he : Enters P f) (hx : evs F xs = some vs)
    (hc : ∀ w, Blocks (Hl ++ Hd) w → ((Hl ++ Hd).map (·.1)).Nodup → Old K G w0 w → (∀ p ∈ Hd, p.1 ∈ K ∨ w0.heap.size ≤ p.1) → Changes P f vs.toArray w Hd S) (hd : Nat.blt dd n = true)
    (h : ∀ v H', S v H' → OpsW P n K G w0 ops rest R ((dd, v) :: F) (Hl ++ H')) :
    OpsW P n K G w0 ops (⟨some dd, .call { callee := .value (.func f), args := xs.toArray, argTypes := ats }, ty, pos, after, none⟩ :: rest) R F (Hl ++ Hd) := by
  refine OpsW.perm (H' := Hd ++ Hl) List.perm_append_comm ?_
  refine OpsW.change (Hf := Hd) (H := Hl) he hx (fun w hb hn ho hm => hc w (fun p hp => hb p ?_) ?_ ho hm) hd fun v H' hS => OpsW.perm (H' := Hl ++ H') List.perm_append_comm (h v H' hS)
  · rcases List.mem_append.1 hp with hp | hp
    · exact List.mem_append_right _ hp
    · exact List.mem_append_left _ hp
  · exact ((List.perm_append_comm.map _).nodup_iff).1 hn
theorem OpsW.lessH {l : List Oper} (hp : H'.Sublist H) (h : OpsW P n K G w0 ops l R F H') : OpsW P n K G w0 ops l R F H := fun a w Qx r hq => h a w Qx (r.less hp) hq
theorem W.lessH {c : Code} {Q : Exit → Fr → Hp → Prop} (hp : H'.Sublist H) (h : W P n K G w0 c Q F H') : W P n K G w0 c Q F H := fun a w r => h a w (r.less hp)
/-- Of a heap some blocks, in another order. -/
theorem OpsW.some {l : List Oper} {X : Hp} (hp : (H' ++ X).Perm H) (h : OpsW P n K G w0 ops l R F H') : OpsW P n K G w0 ops l R F H :=
  fun a w Qx r hq => h a w Qx ((r.perm hp).less (List.sublist_append_left _ _)) hq
theorem W.some {c : Code} {Q : Exit → Fr → Hp → Prop} {X : Hp} (hp : (H' ++ X).Perm H) (h : W P n K G w0 c Q F H') : W P n K G w0 c Q F H :=
  fun a w r => h a w ((r.perm hp).less (List.sublist_append_left _ _))
end
section
variable {P : Program} {n : Nat} {K : List Nat} {G : Hp} {w0 : World} {F : Fr} {ops : Array Oper} {rest : List Oper} {R : Fr → Hp → Prop} {ty : TypeId} {pos : String} {after : Array Edge}
theorem OpsW.changeM {dd : Nat} {f : FuncId} {xs : List Operand} {ats : Array TypeId} {vs : List Value} {Hl Hd Hr : Hp} {S : Value → Hp → Prop} (he : Enters P f) (hx : evs F xs = Option.some vs)
    (hc : ∀ w, Blocks (Hl ++ (Hd ++ Hr)) w → ((Hl ++ (Hd ++ Hr)).map (·.1)).Nodup → Old K G w0 w → (∀ p ∈ Hd, p.1 ∈ K ∨ w0.heap.size ≤ p.1) → Changes P f vs.toArray w Hd S) (hd : Nat.blt dd n = true)
    (h : ∀ v H', S v H' → OpsW P n K G w0 ops rest R ((dd, v) :: F) (Hl ++ (H' ++ Hr))) :
    OpsW P n K G w0 ops (⟨Option.some dd, .call { callee := .value (.func f), args := xs.toArray, argTypes := ats }, ty, pos, after, none⟩ :: rest) R F (Hl ++ (Hd ++ Hr)) := by
  have hp : ∀ X : Hp, (X ++ (Hl ++ Hr)).Perm (Hl ++ (X ++ Hr)) := fun X => by
    refine (List.append_assoc X Hl Hr).symm ▸ ?_
    exact (List.perm_append_comm.append_right Hr).trans (by rw [List.append_assoc])
  refine OpsW.perm (hp Hd) ?_
  refine OpsW.change (Hf := Hd) (H := Hl ++ Hr) he hx (fun w hb hn ho hm => hc w (fun p h => hb p ((hp Hd).mem_iff.2 h)) ((((hp Hd).map _).nodup_iff).1 hn) ho hm) hd fun v H' hS => OpsW.perm (hp H').symm (h v H' hS)
theorem OpsW.tuck {l : List Oper} {Hl Hd Hr X hp : Hp} (hs : hp.Sublist X) (h : OpsW P n K G w0 ops l R F (Hl ++ (Hd ++ (hp ++ Hr)))) : OpsW P n K G w0 ops l R F (X ++ (Hl ++ (Hd ++ Hr))) := by
  refine OpsW.lessH (H' := hp ++ (Hl ++ (Hd ++ Hr))) (hs.append_right _) (OpsW.perm ?_ h)
  have e1 : (hp ++ (Hl ++ (Hd ++ Hr))).Perm ((Hl ++ (Hd ++ Hr)) ++ hp) := List.perm_append_comm
  refine List.Perm.trans ?_ e1.symm
  simp only [List.append_assoc]
  exact (List.perm_append_comm.append_left Hd).append_left Hl
theorem nd_mid {Hl Hd Hr : Hp} (h : ((Hl ++ (Hd ++ Hr)).map (·.1)).Nodup) : (Hd.map (·.1)).Nodup := by
  rw [List.map_append, List.map_append, List.nodup_append, List.nodup_append] at h
  exact h.2.1.1
theorem nd_dis {Hl Hd Hr : Hp} (h : ((Hl ++ (Hd ++ Hr)).map (·.1)).Nodup) : ∀ p ∈ Hl, p.1 ∉ Hd.map (·.1) := by
  rw [List.map_append, List.map_append, List.nodup_append] at h
  intro p hp hm
  exact h.2.2 p.1 (List.mem_map.2 ⟨p, hp, rfl⟩) p.1 (List.mem_append_left _ hm) rfl
theorem nd_disr {Hl Hd Hr : Hp} (h : ((Hl ++ (Hd ++ Hr)).map (·.1)).Nodup) : ∀ p ∈ Hr, p.1 ∉ Hd.map (·.1) := by
  rw [List.map_append, List.map_append, List.nodup_append, List.nodup_append] at h
  intro p hp hm
  exact h.2.1.2.2 p.1 hm p.1 (List.mem_map.2 ⟨p, hp, rfl⟩) rfl
theorem bl_mid {Hl Hd Hr : Hp} {w : World} (h : Blocks (Hl ++ (Hd ++ Hr)) w) : Blocks Hd w := fun p hp => h p (List.mem_append_right _ (List.mem_append_left _ hp))
theorem bl_left {Hl Hd Hr : Hp} {w : World} (h : Blocks (Hl ++ (Hd ++ Hr)) w) : Blocks Hl w := fun p hp => h p (List.mem_append_left _ hp)
theorem bl_right {Hl Hd Hr : Hp} {w : World} (h : Blocks (Hl ++ (Hd ++ Hr)) w) : Blocks Hr w := fun p hp => h p (List.mem_append_right _ (List.mem_append_right _ hp))
end
/-! ### Orders of blocks -/
def wsum (f : Nat × Obj → Nat) : Hp → Nat
  | [] => 0
  | p :: r => f p + wsum f r
theorem wsum_app (f : Nat × Obj → Nat) : ∀ (l m : Hp), wsum f (l ++ m) = wsum f l + wsum f m
  | [], m => by simp [wsum]
  | p :: l, m => by simp only [List.cons_append, wsum, wsum_app f l m]; omega
open Classical in
theorem wsum_count (a : Nat × Obj) : ∀ l : Hp, wsum (fun p => if p = a then 1 else 0) l = List.count a l
  | [] => rfl
  | p :: l => by
    rw [wsum, wsum_count a l, List.count_cons]
    by_cases h : p = a <;> simp [h]; omega
theorem perm_of {l m : Hp} (h : ∀ f, wsum f l = wsum f m) : l.Perm m := by
  classical
  rw [List.perm_iff_count]
  intro a
  rw [← wsum_count, ← wsum_count]
  exact h _
end Go.Vm
