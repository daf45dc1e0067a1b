/-
  The disk, plain: what its calls keep.
  Conditions: none; lemmas.
-/
import Derived.Test.YtajedkhfliondaaDw3
namespace Go.Dk
open Go Go.Vm Go.RowKit Go.Proofs Go.Cu
set_option linter.unusedVariables false
set_option linter.unusedSimpArgs false

theorem put_split {s : Nm} {fs : List Fl} {a : Fl} (h : fnd s fs = some a) (a' : Fl) (hn : a'.nm = s) : ∃ l1 l2, fs = l1 ++ a :: l2 ∧ put a' fs = l1 ++ a' :: l2 ∧ a.nm = s ∧ ∀ g ∈ l1, s ≠ g.nm := by
  obtain ⟨l1, l2, h1, h2, h3⟩ := fnd_split h
  refine ⟨l1, l2, h1, ?_, h2, h3⟩
  rw [h1]
  exact put_at (h2.trans hn.symm) (fun g hg => by rw [hn]; exact h3 g hg)
theorem put_names {s : Nm} {fs : List Fl} {a : Fl} (h : fnd s fs = some a) {a' : Fl} (hn : a'.nm = s) : (put a' fs).map (·.nm) = fs.map (·.nm) := by
  obtain ⟨l1, l2, h1, h2, h3, _⟩ := put_split h a' hn
  rw [h2, h1]
  simp [hn, h3]
theorem put_total {s : Nm} {fs : List Fl} {a : Fl} (h : fnd s fs = some a) {a' : Fl} (hn : a'.nm = s) : total (put a' fs) + a.safe = total fs + a'.safe := by
  obtain ⟨l1, l2, h1, h2, h3, _⟩ := put_split h a' hn
  rw [h2, h1]
  simp only [total_app, total_cons]
  omega
theorem put_mem {s : Nm} {fs : List Fl} {a : Fl} (h : fnd s fs = some a) {a' : Fl} (hn : a'.nm = s) {g : Fl} (hg : g ∈ put a' fs) : g = a' ∨ g ∈ fs := by
  obtain ⟨l1, l2, h1, h2, h3, _⟩ := put_split h a' hn
  rw [h2] at hg
  rw [h1]
  simp only [List.mem_append, List.mem_cons] at hg ⊢
  rcases hg with hg | rfl | hg
  · exact .inr (.inl hg)
  · exact .inl rfl
  · exact .inr (.inr (.inr hg))
theorem safe_total {fs : List Fl} {a : Fl} (h : a ∈ fs) : a.safe ≤ total fs := by
  obtain ⟨x, y, rfl⟩ := List.append_of_mem h
  rw [total_app, total_cons]
  omega
theorem fnd_names {s : Nm} {fs gs : List Fl} (h : gs.map (·.nm) = fs.map (·.nm)) : fnd s gs = none ↔ fnd s fs = none := by
  rw [fnd_no, fnd_no]
  have : ∀ l : List Fl, (∀ g ∈ l, s ≠ g.nm) ↔ s ∉ l.map (·.nm) := fun l => by
    constructor
    · intro h hm
      obtain ⟨g, hg, rfl⟩ := List.mem_map.1 hm
      exact h g hg rfl
    · intro h g hg he
      exact h (List.mem_map.2 ⟨g, hg, he.symm⟩)
  rw [this, this, h]
/-- A file in its place. -/
theorem ok_put {A : AD} {s : Nm} {a a' : Fl} (hA : A.ok) (h : fnd s A.fs = some a) (hn : a'.nm = s) (h1 : a'.safe ≤ a'.data.length) (h2 : a'.data.length ≤ bigRoom) (h3 : ∀ c ∈ a'.data, c < 256) (h4 : total A.fs + a'.safe ≤ A.room + a.safe) {st fu : Nat} {dn : Bool} (hf : fu ≤ 9223372036854775807) :
    AD.ok ⟨put a' A.fs, A.room, st, fu, dn⟩ := by
  have hm : ∀ {g}, g ∈ put a' A.fs → g = a' ∨ g ∈ A.fs := fun hg => put_mem h hn hg
  have ht := put_total h hn
  refine ⟨?_, fun g hg => ?_, fun g hg => ?_, fun g hg => ?_, ?_, hA.room, ?_, hf⟩
  · show ((put a' A.fs).map (·.nm)).Nodup
    rw [put_names h hn]; exact hA.names
  · rcases hm hg with rfl | hg
    · exact h1
    · exact hA.safe g hg
  · rcases hm hg with rfl | hg
    · exact h2
    · exact hA.size g hg
  · rcases hm hg with rfl | hg
    · exact h3
    · exact hA.small g hg
  · show total (put a' A.fs) ≤ A.room
    omega
  · have := congrArg List.length (put_names h hn)
    simp only [List.length_map] at this
    show (put a' A.fs).length ≤ 32
    rw [this]; exact hA.many
theorem ok_more {A : AD} (hA : A.ok) {st fu : Nat} {dn : Bool} (hf : fu ≤ 9223372036854775807) : AD.ok ⟨A.fs, A.room, st, fu, dn⟩ := ⟨hA.names, hA.safe, hA.size, hA.small, hA.fits, hA.room, hA.many, hf⟩
theorem total_put_new {fs : List Fl} {a : Fl} (h : fnd a.nm fs = none) : put a fs = fs ++ [a] := put_no (fnd_no.1 h)
/-- A new file. -/
theorem ok_new {A : AD} {a : Fl} (hA : A.ok) (h : fnd a.nm A.fs = none) (h0 : a.safe = 0) (h2 : a.data.length ≤ bigRoom) (h3 : ∀ c ∈ a.data, c < 256) (h4 : A.fs.length < 32) {st fu : Nat} {dn : Bool} (hf : fu ≤ 9223372036854775807) :
    AD.ok ⟨put a A.fs, A.room, st, fu, dn⟩ := by
  rw [total_put_new h]
  refine ⟨?_, fun g hg => ?_, fun g hg => ?_, fun g hg => ?_, ?_, hA.room, ?_, hf⟩
  · show ((A.fs ++ [a]).map (·.nm)).Nodup
    rw [List.map_append, List.nodup_append]
    refine ⟨hA.names, by simp, fun x hx y hy hxy => ?_⟩
    obtain ⟨g, hg, rfl⟩ := List.mem_map.1 hx
    simp only [List.map_cons, List.map_nil, List.mem_singleton] at hy
    exact fnd_no.1 h g hg (by rw [← hy, hxy])
  · rcases List.mem_append.1 hg with hg | hg
    · exact hA.safe g hg
    · rw [List.mem_singleton.1 hg]; omega
  · rcases List.mem_append.1 hg with hg | hg
    · exact hA.size g hg
    · rw [List.mem_singleton.1 hg]; exact h2
  · rcases List.mem_append.1 hg with hg | hg
    · exact hA.small g hg
    · rw [List.mem_singleton.1 hg]; exact h3
  · show total (A.fs ++ [a]) ≤ A.room
    rw [total_app, total_cons, h0]
    have := hA.fits
    show total A.fs + (0 + 0) ≤ A.room
    omega
  · show (A.fs ++ [a]).length ≤ 32
    rw [List.length_append]; simp; omega
theorem del_sub (s : Nm) : ∀ fs : List Fl, (del s fs).Sublist fs
  | [] => List.Sublist.refl _
  | f :: r => by
    unfold del
    split
    · exact List.sublist_cons_self _ _
    · exact (del_sub s r).cons_cons _
theorem total_sub {l m : List Fl} (h : l.Sublist m) : total l ≤ total m := by
  induction h with
  | slnil => exact Nat.le_refl _
  | cons a _ ih => rw [total_cons]; omega
  | cons_cons a _ ih => rw [total_cons, total_cons]; omega
theorem ok_sub {A : AD} {gs : List Fl} (hA : A.ok) (h : gs.Sublist A.fs) {st fu : Nat} {dn : Bool} (hf : fu ≤ 9223372036854775807) : AD.ok ⟨gs, A.room, st, fu, dn⟩ :=
  ⟨(h.map _).nodup hA.names, fun g hg => hA.safe g (h.subset hg), fun g hg => hA.size g (h.subset hg), fun g hg => hA.small g (h.subset hg), Nat.le_trans (total_sub h) hA.fits, hA.room, Nat.le_trans h.length_le hA.many, hf⟩
theorem del_no {s : Nm} : ∀ {fs : List Fl}, (fs.map (·.nm)).Nodup → ∀ g ∈ del s fs, s ≠ g.nm
  | [], _, g, hg => by cases hg
  | f :: r, hn, g, hg => by
    rw [List.map_cons, List.nodup_cons] at hn
    unfold del at hg
    by_cases h : s = f.nm
    · rw [if_pos h] at hg
      intro he
      exact hn.1 (List.mem_map.2 ⟨g, hg, by rw [← he, h]⟩)
    · rw [if_neg h] at hg
      rcases List.mem_cons.1 hg with rfl | hg
      · exact h
      · exact del_no hn.2 g hg
theorem del_total {s : Nm} {fs : List Fl} {a : Fl} (h : fnd s fs = some a) : total (del s fs) + a.safe = total fs ∧ (del s fs).length + 1 = fs.length := by
  obtain ⟨l1, l2, h1, h2, h3⟩ := fnd_split h
  rw [h1, del_at h2 h3]
  simp only [total_app, total_cons, List.length_append, List.length_cons]
  omega
theorem getF_of {s : Nm} {fs : List Fl} {a : Fl} (h : fnd s fs = some a) : getF s fs = a := by unfold getF; rw [h]; rfl
theorem fnd_get {s : Nm} {fs : List Fl} (h : fnd s fs ≠ none) : fnd s fs = some (getF s fs) := by
  cases h' : fnd s fs with
  | none => exact absurd h' h
  | some a => rw [getF_of h']
theorem getF_mem {s : Nm} {fs : List Fl} (h : fnd s fs ≠ none) : getF s fs ∈ fs ∧ (getF s fs).nm = s := fnd_mem (fnd_get h)
/-! ### A loss of power -/
theorem crash1_ok {A : AD} {keep : List Int} {i : Nat} {s : Nm} (hA : A.ok) (h : fnd s A.fs ≠ none) : AD.ok ⟨crash1 keep A.fs A.room i s, A.room, A.steps, A.fuse, A.down⟩ ∧ (crash1 keep A.fs A.room i s).map (·.nm) = A.fs.map (·.nm) := by
  have hf := fnd_get h
  have hm := getF_mem h
  have h1 := hA.safe _ hm.1
  have h2 := hA.size _ hm.1
  have h3 := hA.small _ hm.1
  have h4 := hA.fits
  have h5 := safe_total hm.1
  unfold crash1
  refine ⟨ok_put hA hf rfl ?_ ?_ ?_ ?_ hA.fuse, put_names hf rfl⟩
  · show max _ _ ≤ (List.take _ _).length
    rw [List.length_take]
    split <;> omega
  · show (List.take _ _).length ≤ _
    rw [List.length_take]; omega
  · intro c hc
    exact h3 c (List.mem_of_mem_take hc)
  · show total A.fs + max _ _ ≤ _
    omega
end Go.Dk
