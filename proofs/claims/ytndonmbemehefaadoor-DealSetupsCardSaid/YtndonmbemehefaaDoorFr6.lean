/-
  The scalars: of any bytes: the walk. Conditions: none.
-/
import Derived.Test.YtndonmbemehefaaDoorFr5
namespace Go.Cu
open Go Go.Vm Go.RowKit Go.Proofs 
attribute [local irreducible] W OpsW Det Fresh New Writes Vm.Pure Makes Changes ExternTo BuildTo ZeroTo FieldTo IndexTo BinTo SliceTo Vm.Enters
set_option linter.unusedVariables false
set_option linter.unusedSimpArgs false
variable {T : Nat → TypeId × Nat × Nat}

/-- v is a slice of the bytes l, which lie in a block of G'. -/
structure Bs (G' : Hp) (v : Value) (l : List Nat) : Prop where
  shape : ∃ ad cap, v = .slice ad l.length cap
  small : ∀ c ∈ l, c < 256
  all : 0 < l.length → ∃ (b o cap : Nat) (cs : List Value) (e : TypeId) (fr : Nat × Nat), v = .slice (some ⟨b, o, none⟩) l.length cap ∧ (b, Obj.cells cs.toArray e fr) ∈ G' ∧ l.length ≤ cap ∧ ∀ i (h : i < l.length), cs[o + i]? = some (u8 l[i])
theorem Bs.at_ {G' : Hp} {v : Value} {l : List Nat} (hB : Bs G' v l) (i : Nat) (h : i < l.length) : ∃ (b o cap : Nat) (cs : List Value) (e : TypeId) (fr : Nat × Nat), v = .slice (some ⟨b, o, none⟩) l.length cap ∧ (b, Obj.cells cs.toArray e fr) ∈ G' ∧ cs[o + i]? = some (u8 l[i]) := by
  obtain ⟨b, o, cap, cs, e, fr, h1, h2, _, h3⟩ := hB.all (by omega)
  exact ⟨b, o, cap, cs, e, fr, h1, h2, h3 i h⟩
theorem Bs.mono {G' G'' : Hp} {v : Value} {l : List Nat} (h : Bs G' v l) (hs : ∀ p ∈ G', p ∈ G'') : Bs G'' v l :=
  ⟨h.shape, h.small, fun i => by obtain ⟨b, o, cap, cs, e, fr, h1, h2, h3⟩ := h.all i; exact ⟨b, o, cap, cs, e, fr, h1, hs _ h2, h3⟩⟩
theorem blocks_cons {G : Hp} {w : World} {p : Nat × Obj} (h : w.heap[p.1]? = some p.2) (hG : Blocks G w) : Blocks (p :: G) w := fun q hq => by
  rcases List.mem_cons.1 hq with rfl | hq
  · exact h
  · exact hG q hq
theorem blocks_app {G G' : Hp} {w : World} (h : Blocks G w) (h' : Blocks G' w) : Blocks (G ++ G') w := fun q hq => (List.mem_append.1 hq).elim (h q) (h' q)
def bcells (l : List Nat) : List Value := l.map u8
theorem Bs.of {l : List Nat} {b cap : Nat} {spare : List Value} {e : TypeId} {fr : Nat × Nat} (hs : ∀ c ∈ l, c < 256) (hcap : l.length ≤ cap) : Bs [(b, .cells (bcells l ++ spare).toArray e fr)] (.slice (some ⟨b, 0, none⟩) l.length cap) l :=
  ⟨⟨_, _, rfl⟩, hs, fun _ => ⟨b, 0, cap, _, e, fr, rfl, List.mem_singleton.2 rfl, hcap, fun i hi => by rw [Nat.zero_add, List.getElem?_append_left (by simp [bcells]; exact hi)]; simp [bcells, hi]⟩⟩
/-- The number that bytes make, below the order. -/
def wide (l : List Nat) : Fs := l.foldl (fun x c => x * Zp.of 256 + Zp.of c) 0
theorem wide_step {l : List Nat} {i : Nat} (h : i < l.length) : wide (l.take (i + 1)) = wide (l.take i) * Zp.of 256 + Zp.of l[i] := by
  unfold wide
  rw [List.take_succ_eq_append_getElem h, List.foldl_append]
  rfl
theorem z67r : TyZ Tryd.prog 67 (encR 0) (w4 (lim (montr 0))) := ⟨fun _ => by kernel_rfl, rfl⟩
theorem conv_byte {c : Nat} (h : c < 256) : Value.int .u64 (IntKind.u64.wrap (c : Int)) = u64 c := by rw [wrap_u64 (by omega)]; rfl
/-- The first i bytes, and noughts. -/
def cst (l : List Nat) (i : Nat) : List Value := bcells (l.take i) ++ List.replicate (l.length - i) (u8 0)
theorem cst_put {l : List Nat} {i : Nat} (h : i < l.length) : splice i [u8 l[i]] (cst l i) = some (cst l (i + 1)) := by
  have := splice_app (a := bcells (l.take i)) (new := [u8 l[i]]) (c := List.replicate (l.length - i) (u8 0)) (by simp; omega)
  rw [show (bcells (l.take i)).length = i by simp [bcells]; omega] at this
  unfold cst
  rw [this, List.take_succ_eq_append_getElem h, List.drop_replicate]
  simp only [bcells, List.map_append, List.map_cons, List.map_nil, List.length_singleton]
  rw [Nat.sub_sub]
theorem cst_0 (l : List Nat) : zrep [.int .u8 0] l.length = cst l 0 := by
  unfold cst bcells
  simp only [List.take_zero, List.map_nil, List.nil_append, Nat.sub_zero]
  generalize l.length = n
  induction n with
  | zero => rfl
  | succ n ih => simp only [zrep, List.replicate_succ] at ih ⊢; first | exact congrArg _ ih | rw [ih]; rfl
theorem cst_all (l : List Nat) : cst l l.length = bcells l ++ [] := by unfold cst; simp [bcells]




end Go.Cu
