/-
  Strings, and tests that are parted on at once, in the logic of partial frames and heaps.
  Conditions: none; it is a library of lemmas over any program.
-/
import Derived.Test.YtajedkhfliondaaVmGlue
import Derived.Laws.IdiomStrings
import Derived.Laws.Strings
import Derived.Laws.Small
namespace Go.Vm
open Go Go.RowKit

section
variable {P : Program} {n : Nat} {K : List Nat} {G : Hp} {w0 : World}
variable {ops : Array Oper} {rest : List Oper} {R : Fr → Hp → Prop} {F : Fr} {H : Hp} {op : Op} {ty : TypeId} {pos : String} {after : Array Edge} {x y : Operand} {xt yt : TypeId}

/-- A test, parted on. -/
theorem OpsW.test {d : Nat} {b : Bool} (hdet : Det P K G w0 ⟨some d, op, ty, pos, after, none⟩ F H (.bool b)) (hd : Nat.blt d n = true)
    (ht : b = true → OpsW P n K G w0 ops rest R ((d, .bool true) :: F) H) (hf : b = false → OpsW P n K G w0 ops rest R ((d, .bool false) :: F) H) :
    OpsW P n K G w0 ops (⟨some d, op, ty, pos, after, none⟩ :: rest) R F H := by
  cases hb : b with
  | true => subst hb; exact OpsW.det hdet hd (ht rfl)
  | false => subst hb; exact OpsW.det hdet hd (hf rfl)

/-- A guard that was itself not wanted. -/
theorem OpsW.guard_un {d : Nat} {j : Nat} {t : Bool} {s : Nat} (hg : (ops[j]?).bind (·.dst) = some s) (hv : look F s = some undef) (hd : Nat.blt d n = true) (h : OpsW P n K G w0 ops rest R ((d, undef) :: F) H) :
    OpsW P n K G w0 ops (⟨some d, op, ty, pos, after, some (j, t)⟩ :: rest) R F H :=
  fun a w Qx r hq => by
    have hy : Region.wanted ⟨some d, op, ty, pos, after, some (j, t)⟩ (yielded ops a.tmps) = false := by
      have := r.slots s _ hv
      cases t <;> simp [Region.wanted, yielded, hg, this, undef]
    unfold wpList
    rw [hy]
    exact h _ _ _ (r.put (of_decide_eq_true (by simpa using hd))) hq

variable {d : Option Tmp} {g : Option (Nat × Bool)} {s t : ByteArray}
theorem str_eq {s t : ByteArray} : (s.toList == t.toList) = decide (s = t) := by
  rw [ByteArray.toList_eq, ByteArray.toList_eq, Bool.eq_iff_iff]
  simp only [beq_iff_eq, decide_eq_true_eq]
  constructor
  · intro h
    cases s; cases t
    simp only [ByteArray.mk.injEq]
    exact Array.toList_inj.1 h
  · intro h; rw [h]
theorem det_streql (hx : ev F x = some (.string s)) (hy : ev F y = some (.string t)) : Det P K G w0 ⟨d, .binOp .eql xt x y yt, ty, pos, after, g⟩ F H (.bool (decide (s = t))) :=
  det_bin hx hy guard_string fun _ => by simp only [binOp, Op.stringOp, str_eq]; rfl
theorem det_strneq (hx : ev F x = some (.string s)) (hy : ev F y = some (.string t)) : Det P K G w0 ⟨d, .binOp .neq xt x y yt, ty, pos, after, g⟩ F H (.bool (!decide (s = t))) :=
  det_bin hx hy guard_string fun _ => by simp only [binOp, Op.stringOp, str_eq]; rfl
theorem det_eqlb {a b : Bool} (hu : P.underlying xt = some .bool) (hx : ev F x = some (.bool a)) (hy : ev F y = some (.bool b)) : Det P K G w0 ⟨d, .binOp .eql xt x y yt, ty, pos, after, g⟩ F H (.bool (a == b)) :=
  det_bin hx hy guard_bool fun w => run_eql_bool w xt a b hu
theorem det_neqb {a b : Bool} (hu : P.underlying xt = some .bool) (hx : ev F x = some (.bool a)) (hy : ev F y = some (.bool b)) : Det P K G w0 ⟨d, .binOp .neq xt x y yt, ty, pos, after, g⟩ F H (.bool (a != b)) :=
  det_bin hx hy guard_bool fun w => by simp [binOp, run_equal_bool w xt a b hu, bne]
theorem det_strindex {xt : TypeId} {k : IntKind} {i : Int} (hu : P.underlying xt = some .string) (hx : ev F x = some (.string s)) (hy : ev F y = some (.int k i)) {v : UInt8} (hv : 0 ≤ i ∧ s.data[i.toNat]? = some v) :
    Det P K G w0 ⟨d, .index xt x y, ty, pos, after, g⟩ F H (.int .u8 v.toNat) :=
  det_run fun a w hs _ _ => by
    obtain ⟨h, hv⟩ := hv
    have hlt : i.toNat < s.data.size := (Array.getElem?_eq_some_iff.1 hv).1
    have hlt' : i < s.size := by have : i.toNat < s.size := hlt; omega
    have hg : s[i.toNat]'(by omega) = v := (Array.getElem?_eq_some_iff.1 hv).2
    simp [execOp, hs.ev hx, hs.ev hy, run_index_string w xt s k i hu, h, hlt', hg]

/-- A sum of natural numbers that is far from a wrap. -/
theorem det_addN {a b : Nat} (hx : ev F x = some (.int .i64 a)) (hy : ev F y = some (.int .i64 b)) (h : a + b ≤ 9223372036854775807) : Det P K G w0 ⟨d, .binOp .add xt x y yt, ty, pos, after, g⟩ F H (.int .i64 ((a + b : Nat) : Int)) := by
  have := det_add (P := P) (K := K) (G := G) (w0 := w0) (d := d) (ty := ty) (pos := pos) (after := after) (g := g) (F := F) (H := H) (xt := xt) (yt := yt) hx hy
  rwa [show IntKind.i64.wrap ((a : Int) + b) = ((a + b : Nat) : Int) from by simp [IntKind.wrap, IntKind.signed, IntKind.bits]; omega] at this

def byteCells (s : ByteArray) : List Value := s.data.toList.map fun b => Value.int .u8 b.toNat
theorem byteCells_get {s : ByteArray} {i : Nat} {v : UInt8} {r : List Value} (h : s.data[i]? = some v) : (byteCells s ++ r)[i]? = some (.int .u8 v.toNat) := by
  have hlt : i < s.data.size := (Array.getElem?_eq_some_iff.1 h).1
  rw [List.getElem?_append_left (by simp [byteCells]; exact hlt)]
  simp [byteCells, h]
theorem byte_at {s : ByteArray} {i : Nat} (h : i < s.size) : ∃ v, s.data[i]? = some v := ⟨s.data[i]'h, by simp [Array.getElem?_eq_getElem (show i < s.data.size from h)]⟩

/-- '[]byte(s)'. -/
theorem new_bytes {src dst e : TypeId} (hs0 : P.underlying src = some .string) (hd : P.underlying dst = some (.slice e)) (he : P.underlying e = some (.int .u8)) (hx : ev F x = some (.string s)) :
    New P K G w0 ⟨d, .convert src dst x, ty, pos, after, g⟩ F H (fun p => .slice (some ⟨p.1, 0, none⟩) s.size p.2.1)
      (fun p => [(p.1, .cells (byteCells s ++ p.2.2).toArray e ((byteCells s ++ p.2.2).length, (byteCells s ++ p.2.2).length + 1))]) (fun p => s.size ≤ p.2.1 ∧ p.2.2 = List.replicate (p.2.1 - s.size) (.int .u8 0)) :=
  fun a w hs _ _ next Qx hn => by
    have he' : bytesRow s (grownCap w s.size 0 e) = (byteCells s ++ List.replicate (grownCap w s.size 0 e - s.size) (Value.int .u8 0)).toArray := by
      simp only [bytesRow, byteCells]
      apply Array.ext'
      simp
    have hr : (execOp a.eval ⟨d, .convert src dst x, ty, pos, after, g⟩).run P w = .ok (.value (.slice (some ⟨w.heap.size, 0, none⟩) s.size (grownCap w s.size 0 e))) (w.drew.alloc (.cells (bytesRow s (grownCap w s.size 0 e)) e ((bytesRow s (grownCap w s.size 0 e)).size, (bytesRow s (grownCap w s.size 0 e)).size + 1))) := by
      simp [execOp, hs.ev hx, run_bytes_of_string w src dst e s hs0 hd he]
    unfold Oper.wp
    rw [hr, he']
    refine hn (w.heap.size, grownCap w s.size 0 e, List.replicate (grownCap w s.size 0 e - s.size) (Value.int .u8 0)) _ ⟨grownCap_ge _ _ _ _, rfl⟩ (((Below.refl _ _).drew).alloc (Nat.le_refl _) _) ?_ (by simp) (by simp)
    intro p hp
    simp only [List.mem_singleton] at hp
    subst hp
    show (w.heap.push _)[w.heap.size]? = _
    simp
end
end Go.Vm
