/-
  What calls on other files, and a loss of power, leave of a file that is safe: plain.
  Conditions: those of a disk.
-/
import Derived.Test.YtajedkhfliondaaOpg
namespace Go.Dk
open Go Go.Vm Go.RowKit Go.Proofs Go.Cu
set_option linter.unusedVariables false
set_option linter.unusedSimpArgs false
theorem fnd_put_ne {s : Nm} {a : Fl} (h : s ≠ a.nm) : ∀ {fs : List Fl}, fnd s (put a fs) = fnd s fs
  | [] => by simp [put, fnd, h]
  | f :: r => by
    by_cases he : a.nm = f.nm
    · have h2 : s ≠ f.nm := fun h3 => h (h3.trans he.symm)
      simp [put, he, fnd, h2]
    · simp only [put, he, if_false, fnd, fnd_put_ne h (fs := r)]
theorem fnd_put_eq {s : Nm} {a : Fl} (h : a.nm = s) : ∀ {fs : List Fl}, fnd s (put a fs) = some a
  | [] => by simp [put, fnd, h]
  | f :: r => by
    by_cases he : a.nm = f.nm
    · simp [put, he, fnd, ← h]
    · have h2 : s ≠ f.nm := fun h3 => he (h.trans h3)
      simp [put, he, fnd, h2, fnd_put_eq h (fs := r)]
theorem fnd_del_ne {s t : Nm} (h : s ≠ t) : ∀ {fs : List Fl}, fnd s (del t fs) = fnd s fs
  | [] => rfl
  | f :: r => by
    by_cases he : t = f.nm
    · have h2 : s ≠ f.nm := fun h3 => h (h3.trans he.symm)
      simp [del, he, fnd, h2]
    · simp only [del, he, if_false, fnd, fnd_del_ne h (fs := r)]
theorem getF_nm {s : Nm} {fs : List Fl} : (getF s fs).nm = s := by
  cases h : fnd s fs with
  | none => rw [getF_none h]
  | some a => rw [getF_of h]; exact (fnd_mem h).2
section
variable {A : AD} {s t own : Nm}
theorem append_keeps {b : List Nat} (h : own ≠ s) : fnd own (append A s b).1.fs = fnd own A.fs := by
  unfold append
  split
  · rfl
  · split
    · rfl
    · split
      · rfl
      · rw [(step_fields _).1]
        exact fnd_put_ne (by show own ≠ (getF s A.fs).nm; rw [getF_nm]; exact h)
theorem sync_keeps (h : own ≠ s) : fnd own (sync A s).1.fs = fnd own A.fs := by
  unfold sync
  split
  · rfl
  · split
    · rfl
    · split
      · rw [(step_fields _).1]
      · exact fnd_put_ne (by show own ≠ (getF s A.fs).nm; rw [getF_nm]; exact h)
theorem cut_keeps {n : Int} (h : own ≠ s) : fnd own (cut A s n).1.fs = fnd own A.fs := by
  unfold cut
  split
  · rfl
  · split
    · rfl
    · split
      · rw [(step_fields _).1]
      · exact fnd_put_ne h
theorem move_keeps (h : own ≠ s) (h2 : own ≠ t) : fnd own (move A s t).1.fs = fnd own A.fs := by
  unfold move
  split
  · rfl
  · split
    · rfl
    · split
      · rw [(step_fields _).1]
      · show fnd own (put _ (del s A.fs)) = _
        rw [fnd_put_ne h2, fnd_del_ne h]
theorem drop_keeps (h : own ≠ s) : fnd own (drop A s).1.fs = fnd own A.fs := by
  unfold drop
  split
  · rfl
  · split
    · rw [(step_fields _).1]
    · exact fnd_del_ne h
end
theorem doA_keeps {A : AD} {o : OT} {own : Nm} (h1 : o.nm ≠ own) (h2 : o.to ≠ own) (h3 : o.kind ≠ 7) : fnd own (doA A o).1.fs = fnd own A.fs := by
  unfold doA
  split
  · exact append_keeps h1.symm
  · split
    · exact sync_keeps h1.symm
    · split
      · exact cut_keeps h1.symm
      · split
        · exact move_keeps h1.symm h2.symm
        · split
          · exact drop_keeps h1.symm
          · split
            · rfl
            · split
              · rfl
              · first | rw [if_neg h3] | rfl
theorem doA_ok {A : AD} {o : OT} (hA : A.ok) (hd : ∀ c ∈ o.data, c < 256) (hn : o.n ≤ 9223372036854775807) : (doA A o).1.ok ∧ (doA A o).1.steps ≤ A.steps + 1 := by
  unfold doA
  split
  · exact append_ok hA hd
  · split
    · exact sync_ok hA
    · split
      · exact cut_ok hA
      · split
        · exact move_ok hA
        · split
          · exact drop_ok hA
          · split
            · exact ⟨hA, Nat.le_succ _⟩
            · split
              · exact fuse_ok hA hn
              · split
                · exact ⟨(crash_ok hA).1, (crash_ok hA).2.1⟩
                · exact ⟨hA, Nat.le_succ _⟩
theorem DoIs.disk {bD : Nat} {R : AD × List Nat × Nat} {v : Value} {H : Hp} (h : DoIs bD R v H) : DiskIs bD R.1 H := by
  obtain ⟨ad, cap, hp, Hx, l, _, _, ⟨r, bm, l0, h1, h2, h3, h4⟩, hl, hs⟩ := h
  obtain ⟨l1, hp1, hs1⟩ := List.exists_perm_sublist (h4.trans (List.sublist_append_left Hx hp)) hl.symm
  exact ⟨r, bm, l1, h1, h2, hp1.trans h3, hs1.trans hs⟩
/-- A file behind a loss of power at which nothing more is kept. -/
def settle (f : Fl) : Fl := ⟨f.nm, f.data.take f.safe, f.safe⟩
theorem settle_settle (f : Fl) : settle (settle f) = settle f := by
  unfold settle
  simp only [Fl.mk.injEq, true_and, and_true]
  rw [List.take_take, Nat.min_self]
theorem crash1_nil {fs : List Fl} {room i : Nat} {s : Nm} {f : Fl} (h : fnd s fs = some f) (ht : total fs ≤ room) : crash1 [] fs room i s = put (settle f) fs := by
  unfold crash1
  rw [getF_of h]
  have hn := (fnd_mem h).2
  have he : max f.safe (min (f.safe + (if hh : i < ([] : List Int).length then (max 0 (min ([] : List Int)[i] ((f.data.length - f.safe : Nat) : Int))).toNat else 0)) (room + f.safe - total fs)) = f.safe := by
    rw [dif_neg (by simp)]
    omega
  simp only [he]
  unfold settle
  rw [hn]
theorem crashes_nil {room st fu : Nat} {dn : Bool} : ∀ {ns : List Nm} {fs : List Fl} {i : Nat}, AD.ok ⟨fs, room, st, fu, dn⟩ → (∀ s ∈ ns, fnd s fs ≠ none) → ∀ t, fnd t (crashes [] room fs i ns) = if t ∈ ns then (fnd t fs).map settle else fnd t fs
  | [], fs, i, hA, hns, t => by simp [crashes]
  | s :: r, fs, i, hA, hns, t => by
    have hs := hns s (by simp)
    obtain ⟨f, hf⟩ : ∃ f, fnd s fs = some f := ⟨_, fnd_get hs⟩
    have hc := crash1_ok (A := ⟨fs, room, st, fu, dn⟩) (keep := []) (i := i) hA hs
    have hcn : crash1 [] fs room i s = put (settle f) fs := crash1_nil hf hA.fits
    have hok : AD.ok ⟨put (settle f) fs, room, st, fu, dn⟩ := by have := hc.1; rw [show crash1 [] (AD.mk fs room st fu dn).fs (AD.mk fs room st fu dn).room i s = _ from hcn] at this; exact this
    have hnm : (put (settle f) fs).map (·.nm) = fs.map (·.nm) := by have := hc.2; rw [show crash1 [] (AD.mk fs room st fu dn).fs (AD.mk fs room st fu dn).room i s = _ from hcn] at this; exact this
    have hfn : (settle f).nm = s := (fnd_mem hf).2
    show fnd t (crashes [] room (crash1 [] fs room i s) (i + 1) r) = _
    rw [hcn, crashes_nil (ns := r) (i := i + 1) hok (fun x hx hn => hns x (by simp [hx]) ((fnd_names hnm).1 hn)) t]
    by_cases hts : t = s
    · subst hts
      rw [fnd_put_eq hfn, hf]
      simp [settle_settle]
    · have h1 : fnd t (put (settle f) fs) = fnd t fs := fnd_put_ne (by rw [hfn]; exact hts)
      rw [h1]
      simp [hts]
theorem crash_nil {A : AD} (hA : A.ok) (t : Nm) : fnd t (crash A []).fs = (fnd t A.fs).map settle := by
  obtain ⟨fs, room, st, fu, dn⟩ := A
  show fnd t (crashes [] room fs 0 (names fs)) = _
  rw [crashes_nil hA (fun s hs => fnd_of_name hs) t]
  split
  · rfl
  · rename_i h
    have : fnd t fs = none := by
      cases hf : fnd t fs with
      | none => rfl
      | some f =>
        have hm := fnd_mem hf
        exact absurd (by unfold names; rw [List.mem_mergeSort]; exact List.mem_map.2 ⟨f, hm.1, hm.2⟩) h
    show fnd t fs = (fnd t fs).map settle
    rw [this]; rfl
theorem image_settled {A : AD} (hA : A.ok) : ∀ x ∈ (image (crash A []).fs).map ft, x.2.2 = ((x.2.1.length : Nat) : Int) := fun x hx => by
  obtain ⟨f, hf, rfl⟩ := List.mem_map.1 hx
  unfold image at hf
  obtain ⟨s, hs, rfl⟩ := List.mem_map.1 hf
  have h1 := fnd_of_name hs
  have h2 := crash_nil hA s
  cases hg : fnd s A.fs with
  | none => rw [hg] at h2; exact absurd h2 h1
  | some g =>
    rw [hg] at h2
    have h2 : fnd s (crash A []).fs = some (settle g) := h2
    rw [getF_of h2]
    have h3 := hA.safe g (fnd_mem hg).1
    show ((settle g).safe : Int) = ((settle g).data.length : Int)
    unfold settle
    simp only [List.length_take]
    omega
theorem owned_crash {A : AD} {own : Nm} {a : List Nat} (hA : A.ok) (h : fnd own A.fs = some ⟨own, a, a.length⟩) : fnd own (crash A []).fs = some ⟨own, a, a.length⟩ := by
  rw [crash_nil hA, h]
  simp [settle]
theorem owned_read {A : AD} {own : Nm} {a : List Nat} {k : Nat} (h : fnd own A.fs = some ⟨own, a, k⟩) (hd : A.down = false) (hr : right own = true) : readA A own = (a, 0) := by
  have hb : bars A own true = 0 := by unfold bars; rw [if_neg (by rw [hd]; simp), if_neg (by rw [hr]; simp), if_neg (by rw [h]; simp)]
  unfold readA
  rw [if_neg (fun hh => hh hb), getF_of h]
end Go.Dk
