/-
  The first group: products with scalars, sums of lists: the walks. Conditions: as many as memory has.
-/
import Derived.Test.YtndonmbemehefaaDoorG1c
namespace Go.Cu
open Go Go.Vm Go.RowKit Go.Proofs 
attribute [local irreducible] W OpsW Det Fresh New Writes Vm.Pure Makes Changes ExternTo BuildTo ZeroTo FieldTo IndexTo BinTo SliceTo Vm.Enters
set_option linter.unusedVariables false
set_option linter.unusedSimpArgs false
variable {T : Nat → TypeId × Nat × Nat}

def blist (x : Fs) : List Nat := (List.range 32).map fun i => byt x.val (31 - i)
theorem rbytes_eq (x : Fs) : rbytes x = bcells (blist x) := by unfold rbytes bcells blist; rw [bytes_all, List.map_map]; rfl
theorem blist_small (x : Fs) : ∀ c ∈ blist x, c < 256 := by
  intro c hc
  unfold blist at hc
  obtain ⟨i, _, rfl⟩ := List.mem_map.1 hc
  exact Nat.mod_lt _ (by decide)
theorem blist_len (x : Fs) : (blist x).length = 32 := by simp [blist]
theorem rbytes_one (x : Fs) : (rbytes x).all (·.oneCell') = true := bytes_one _ _ _
theorem blist_Bs (x : Fs) (b : Nat) : Bs [(b, blk (rbytes x) 101)] (.slice (some ⟨b, 0, none⟩) 32 32) (blist x) := by
  have h := Bs.of (b := b) (cap := 32) (spare := []) (e := 101) (fr := (0, 0)) (blist_small x) (by rw [blist_len]; exact Nat.le_refl _)
  rw [blist_len, List.append_nil, ← rbytes_eq] at h
  exact h
/-- So many times. -/
def pmul (p : Pt) (x : Fs) : Pt := times (blist x) p
theorem splice_52 (x : Fs) : splice 0 (rbytes x) (bst 0 0) = some (rbytes x) := splice_all (by rw [bst_len (Nat.zero_le _), rbytes_len])
/-- v is a slice of the points l, which lie in a block of G'. -/
structure Pts (G' : Hp) (v : Value) (l : List Pt) : Prop where
  shape : ∃ ad cap, v = .slice ad l.length cap
  at_ : ∀ i (h : i < l.length), ∃ (b o cap : Nat) (cs : List Value) (e : TypeId) (fr : Nat × Nat), v = .slice (some ⟨b, o, none⟩) l.length cap ∧ (b, Obj.cells cs.toArray e fr) ∈ G' ∧ cut (o + i * 12) 12 cs = some (cellsP l[i])
def jsum (l : List Pt) : Jac := l.foldl (fun j p => jadd j p) (0, 0, 0)
def psum (l : List Pt) : Pt := point (jsum l)
theorem jsum_step {l : List Pt} {i : Nat} (h : i < l.length) : jsum (l.take (i + 1)) = jadd (jsum (l.take i)) l[i] := by
  unfold jsum
  rw [List.take_succ_eq_append_getElem h, List.foldl_append]
  rfl
theorem off_i {o i : Nat} : o + ((i : Nat) : Int).toNat * 12 = o + i * 12 := by simp




end Go.Cu
