/-
  copy, in the logic of partial frames and heaps.
  Conditions: none; it is a library of lemmas over any program.
-/
import Derived.Test.YtajedkhfliondaaVmNum
import Derived.Laws.CopyRow
namespace Go.Vm
open Go Go.RowKit
section
variable {P : Program} {n : Nat} {K : List Nat} {G : Hp} {w0 : World} {F : Fr} {H H' : Hp} {ops : Array Oper} {rest : List Oper} {R : Fr → Hp → Prop} {ty : TypeId} {pos : String} {after : Array Edge} {x y : Operand}
theorem OpsW.copy {dd dt st el b o dLen dCap b2 o2 sLen sCap : Nat} {cs scs cur cur' : List Value} {e e2 : TypeId} {fr2 : Nat × Nat} (hu : P.underlying dt = some (.slice el)) (hs : sizeIn P el = some 1)
    (hx : ev F x = some (.slice (some ⟨b, o, none⟩) dLen dCap)) (hy : ev F y = some (.slice (some ⟨b2, o2, none⟩) sLen sCap)) (hm : (b2, Obj.cells scs.toArray e2 fr2) ∈ H ∨ (b2, Obj.cells scs.toArray e2 fr2) ∈ G)
    (hl : cs.length = Nat.min sLen dLen) (hsrc : ∀ j u, cs[j]? = some u → scs[o2 + j]? = some u) (h1 : cs.all (·.oneCell') = true)
    (hu2 : Upd H b (blk cur e) (blk cur' e) H') (hsp : splice o cs cur = some cur') (hd : Nat.blt dd n = true) (h : OpsW P n K G w0 ops rest R ((dd, .int .i64 cs.length) :: F) H') :
    OpsW P n K G w0 ops (⟨some dd, .call { callee := .builtin .copy, args := #[x, y], argTypes := #[dt, st] }, ty, pos, after, none⟩ :: rest) R F H :=
  fun a w Qx r hq => wpList_any (by
    have hg := r.blocks _ hu2.mem
    have hs2 : w.heap[b2]? = some (.cells scs.toArray e2 fr2) := by
      rcases hm with hm | hm
      · exact r.blocks _ hm
      · exact r.old.look hm
    obtain ⟨e1, e3⟩ := splice_eq hsp
    have hsz : (P.info? el).map (·.size) = some 1 := hs
    have hr : (execOp a.eval ⟨some dd, .call { callee := .builtin .copy, args := #[x, y], argTypes := #[dt, st] }, ty, pos, after, none⟩).run P w = .ok (.value (goInt cs.length)) (w.setRow b cur'.toArray) := by
      have := run_copy_row (P := P) w dt st ty el b o dLen dCap ⟨b2, o2, none⟩ sLen sCap cur.toArray e cs hu hsz hg hl (fun j v hj => by rw [add_off, cell_blk hs2]; exact hsrc j v hj) (by simpa using e3) (fun v hv => by simpa using (List.all_eq_true.1 h1) v hv)
      rw [e1]
      simp [execOp, r.slots.ev hx, r.slots.ev hy, resolve, invoke, builtin, this]
    unfold Oper.wp
    rw [hr]
    exact h _ _ _ ((r.wrote hu2 (setRow_wrote hg)).put (of_decide_eq_true (by simpa using hd))) hq)
end
end Go.Vm
