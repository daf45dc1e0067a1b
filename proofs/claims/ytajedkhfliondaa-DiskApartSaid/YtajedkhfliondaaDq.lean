/-
  The disk, plain: what its calls keep; the calls on disks of few files.
  Conditions: none; lemmas.
-/
import Derived.Test.YtajedkhfliondaaDp
import Derived.Test.YtajedkhfliondaaDw4
namespace Go.Dk
open Go Go.Vm Go.RowKit Go.Proofs Go.Cu
set_option linter.unusedVariables false
set_option linter.unusedSimpArgs false

theorem step_fields (A : AD) : (step A).1.fs = A.fs ∧ (step A).1.room = A.room ∧ (step A).1.fuse ≤ A.fuse ∧ (step A).1.steps ≤ A.steps + 1 := by
  unfold step
  split <;> simp
theorem stepA_ok {A : AD} (hA : A.ok) {gs : List Fl} (h : AD.ok ⟨gs, A.room, A.steps, A.fuse, A.down⟩) : AD.ok { (step A).1 with fs := gs } := by
  obtain ⟨_, h2, h3, _⟩ := step_fields A
  have hf := hA.fuse
  exact ⟨h.names, h.safe, h.size, h.small, by show total gs ≤ (step A).1.room; rw [h2]; exact h.fits, by show (step A).1.room ≤ _; rw [h2]; exact h.room, h.many, by show (step A).1.fuse ≤ _; omega⟩
theorem stepA_ok' {A : AD} (hA : A.ok) : AD.ok (step A).1 := by
  obtain ⟨h1, h2, h3, _⟩ := step_fields A
  have hf := hA.fuse
  exact ⟨by rw [h1]; exact hA.names, by rw [h1]; exact hA.safe, by rw [h1]; exact hA.size, by rw [h1]; exact hA.small, by rw [h1, h2]; exact hA.fits, by rw [h2]; exact hA.room, by rw [h1]; exact hA.many, by omega⟩
theorem append_ok {A : AD} {s : Nm} {b : List Nat} (hA : A.ok) (hb : ∀ c ∈ b, c < 256) : (append A s b).1.ok ∧ (append A s b).1.steps ≤ A.steps + 1 := by
  unfold append
  split
  · exact ⟨hA, Nat.le_succ _⟩
  · split
    · exact ⟨hA, Nat.le_succ _⟩
    · split
      · exact ⟨hA, Nat.le_succ _⟩
      · rename_i h1 h2 h3
        have hput : AD.ok ⟨put { getF s A.fs with data := (getF s A.fs).data ++ b } A.fs, A.room, A.steps, A.fuse, A.down⟩ := by
          cases hf : fnd s A.fs with
          | none =>
            have hg : getF s A.fs = ⟨s, [], 0⟩ := getF_none hf
            rw [hg] at h3 ⊢
            exact ok_new hA hf rfl (by have := max_big; simp only [List.nil_append, List.length_nil] at h3 ⊢; omega) (by simpa using hb) (Classical.byContradiction fun h => h2 ⟨hf, by omega⟩) hA.fuse
          | some a =>
            have hg : getF s A.fs = a := getF_of hf
            have hm := fnd_mem hf
            rw [hg] at h3 ⊢
            refine ok_put (a' := ⟨a.nm, a.data ++ b, a.safe⟩) hA hf hm.2 ?_ ?_ ?_ ?_ hA.fuse
            · have := hA.safe a hm.1
              simp only [List.length_append]; omega
            · have := max_big; simp only [List.length_append]; omega
            · intro c hc
              rcases List.mem_append.1 hc with hc | hc
              · exact hA.small a hm.1 c hc
              · exact hb c hc
            · have := hA.fits; simp only; omega
        refine ⟨stepA_ok' hput, (step_fields _).2.2.2⟩
theorem sync_ok {A : AD} {s : Nm} (hA : A.ok) : (sync A s).1.ok ∧ (sync A s).1.steps ≤ A.steps + 1 := by
  unfold sync
  split
  · exact ⟨hA, Nat.le_succ _⟩
  · split
    · exact ⟨hA, Nat.le_succ _⟩
    · split
      · exact ⟨stepA_ok' hA, (step_fields A).2.2.2⟩
      · rename_i h1 h2 h3
        have hb : bars A s true = 0 := Classical.byContradiction h1
        have hn := bars_there hb
        have hf := fnd_get hn
        have hm := getF_mem hn
        refine ⟨stepA_ok hA (ok_put (a' := ⟨(getF s A.fs).nm, (getF s A.fs).data, (getF s A.fs).data.length⟩) hA hf hm.2 (Nat.le_refl _) (hA.size (getF s A.fs) hm.1) (hA.small (getF s A.fs) hm.1) ?_ hA.fuse), (step_fields A).2.2.2⟩
        show total A.fs + (getF s A.fs).data.length ≤ _
        omega
theorem cut_ok {A : AD} {s : Nm} {n : Int} (hA : A.ok) : (cut A s n).1.ok ∧ (cut A s n).1.steps ≤ A.steps + 1 := by
  unfold cut
  split
  · exact ⟨hA, Nat.le_succ _⟩
  · split
    · exact ⟨hA, Nat.le_succ _⟩
    · split
      · exact ⟨stepA_ok' hA, (step_fields A).2.2.2⟩
      · rename_i h1 h2 h3
        have hb : bars A s true = 0 := Classical.byContradiction h1
        have hn := bars_there hb
        have hf := fnd_get hn
        have hm := getF_mem hn
        have hs := hA.safe (getF s A.fs) hm.1
        have hz := hA.size (getF s A.fs) hm.1
        have hfi := hA.fits
        refine ⟨stepA_ok hA (ok_put (a' := ⟨s, (getF s A.fs).data.take n.toNat, min (getF s A.fs).safe n.toNat⟩) hA hf rfl ?_ ?_ ?_ ?_ hA.fuse), (step_fields A).2.2.2⟩
        · show min _ _ ≤ (List.take _ _).length
          rw [List.length_take]; omega
        · show (List.take _ _).length ≤ _
          rw [List.length_take]; omega
        · intro c hc
          exact hA.small (getF s A.fs) hm.1 c (List.mem_of_mem_take hc)
        · show total A.fs + min _ _ ≤ _
          omega
theorem move_ok {A : AD} {s t : Nm} (hA : A.ok) : (move A s t).1.ok ∧ (move A s t).1.steps ≤ A.steps + 1 := by
  unfold move
  split
  · exact ⟨hA, Nat.le_succ _⟩
  · split
    · exact ⟨hA, Nat.le_succ _⟩
    · split
      · exact ⟨stepA_ok' hA, (step_fields A).2.2.2⟩
      · rename_i h1 h2 h3
        have hb : bars A s true = 0 := Classical.byContradiction h1
        have hn := bars_there hb
        have hf := fnd_get hn
        have hm := getF_mem hn
        obtain ⟨ht, hl⟩ := del_total hf
        have hd : AD.ok ⟨del s A.fs, A.room, A.steps, A.fuse, A.down⟩ := ok_sub hA (del_sub s A.fs) hA.fuse
        refine ⟨stepA_ok hA ?_, (step_fields A).2.2.2⟩
        have hfi := hA.fits
        have hmy := hA.many
        cases hg : fnd t (del s A.fs) with
        | none =>
          rw [total_put_new (a := { getF s A.fs with nm := t }) hg]
          refine ⟨?_, fun g hg' => ?_, fun g hg' => ?_, fun g hg' => ?_, ?_, hA.room, ?_, hA.fuse⟩
          · show ((del s A.fs ++ [_]).map Fl.nm).Nodup
            rw [List.map_append, List.nodup_append]
            refine ⟨hd.names, by simp, fun x hx y hy hxy => ?_⟩
            obtain ⟨g, hgm, rfl⟩ := List.mem_map.1 hx
            simp only [List.map_cons, List.map_nil, List.mem_singleton] at hy
            exact fnd_no.1 hg g hgm (by rw [← hy, hxy])
          · rcases List.mem_append.1 hg' with hg' | hg'
            · exact hd.safe g hg'
            · rw [List.mem_singleton.1 hg']; exact hA.safe (getF s A.fs) hm.1
          · rcases List.mem_append.1 hg' with hg' | hg'
            · exact hd.size g hg'
            · rw [List.mem_singleton.1 hg']; exact hA.size (getF s A.fs) hm.1
          · rcases List.mem_append.1 hg' with hg' | hg'
            · exact hd.small g hg'
            · rw [List.mem_singleton.1 hg']; exact hA.small (getF s A.fs) hm.1
          · show total (del s A.fs ++ [_]) ≤ A.room
            rw [total_app, total_cons]
            show total (del s A.fs) + ((getF s A.fs).safe + 0) ≤ _
            omega
          · show (del s A.fs ++ [_]).length ≤ 32
            rw [List.length_append]; simp only [List.length_cons, List.length_nil]; omega
        | some g =>
          refine ok_put (a' := ⟨t, (getF s A.fs).data, (getF s A.fs).safe⟩) hd hg rfl (hA.safe (getF s A.fs) hm.1) (hA.size (getF s A.fs) hm.1) (hA.small (getF s A.fs) hm.1) ?_ hA.fuse
          show total (del s A.fs) + (getF s A.fs).safe ≤ A.room + g.safe
          omega
theorem drop_ok {A : AD} {s : Nm} (hA : A.ok) : (drop A s).1.ok ∧ (drop A s).1.steps ≤ A.steps + 1 := by
  unfold drop
  split
  · exact ⟨hA, Nat.le_succ _⟩
  · split
    · exact ⟨stepA_ok' hA, (step_fields A).2.2.2⟩
    · exact ⟨stepA_ok hA (ok_sub hA (del_sub s A.fs) hA.fuse), (step_fields A).2.2.2⟩
theorem fuse_ok {A : AD} {k : Int} (hA : A.ok) (hk : k ≤ 9223372036854775807) : (fuseTo A k).ok ∧ (fuseTo A k).steps ≤ A.steps + 1 := by
  refine ⟨ok_more hA (by omega), ?_⟩
  show A.steps ≤ _
  omega
theorem fresh_ok (k : Int) : (fresh k).ok :=
  ⟨List.nodup_nil, (fun f h => by cases h), (fun f h => by cases h), (fun f h => by cases h), Nat.zero_le _, by show (max 0 (min k 4194304)).toNat ≤ 4194304; omega, Nat.zero_le _, Nat.zero_le _⟩
theorem crashes_ok {keep : List Int} {room st fu : Nat} {dn : Bool} : ∀ {ns : List Nm} {fs : List Fl} {i : Nat}, AD.ok ⟨fs, room, st, fu, dn⟩ → (∀ s ∈ ns, fnd s fs ≠ none) →
    AD.ok ⟨crashes keep room fs i ns, room, st, fu, dn⟩ ∧ (crashes keep room fs i ns).map (·.nm) = fs.map (·.nm)
  | [], fs, i, hA, _ => ⟨hA, rfl⟩
  | s :: r, fs, i, hA, h => by
    have h1 := crash1_ok (keep := keep) (i := i) hA (h s (by simp))
    have h2 := crashes_ok (keep := keep) (ns := r) (i := i + 1) h1.1 (fun t ht hn => h t (by simp [ht]) ((fnd_names h1.2).1 hn))
    exact ⟨h2.1, h2.2.trans h1.2⟩
theorem crash_ok {A : AD} {keep : List Int} (hA : A.ok) : (crash A keep).ok ∧ (crash A keep).steps ≤ A.steps + 1 ∧ (crash A keep).fs.map (·.nm) = A.fs.map (·.nm) := by
  have h := crashes_ok (keep := keep) (ns := names A.fs) (i := 0) (fs := A.fs) (room := A.room) (st := A.steps) (fu := A.fuse) (dn := A.down) hA (fun s hs => fnd_of_name hs)
  exact ⟨ok_more h.1 (Nat.zero_le _), Nat.le_succ _, h.2⟩
/-! ### Disks of one file -/
theorem names_one {f : Fl} : names [f] = [f.nm] := by unfold names; simp
theorem fnd_one {s : Nm} {d : List Nat} {k : Nat} : fnd s [⟨s, d, k⟩] = some ⟨s, d, k⟩ := by simp [fnd]
theorem getF_one {s : Nm} {d : List Nat} {k : Nat} : getF s [⟨s, d, k⟩] = ⟨s, d, k⟩ := getF_of fnd_one
theorem put_one {s : Nm} {d e : List Nat} {k m : Nat} : put ⟨s, e, m⟩ [⟨s, d, k⟩] = [⟨s, e, m⟩] := by simp [put]
theorem total_one {s : Nm} {d : List Nat} {k : Nat} : total [⟨s, d, k⟩] = k := by simp [total]
theorem bars_one {s : Nm} {d : List Nat} {k room st fu : Nat} {th : Bool} (hr : right s = true) : bars ⟨[⟨s, d, k⟩], room, st, fu, false⟩ s th = 0 := by
  unfold bars
  simp [hr, fnd_one]
theorem append_new {s : Nm} {b : List Nat} {room st fu : Nat} (hr : right s = true) (hb : b.length ≤ maxRoom) :
    append ⟨[], room, st, fu, false⟩ s b = (⟨[⟨s, b, 0⟩], room, (stp st fu false).2.1, (stp st fu false).2.2.1, (stp st fu false).2.2.2⟩, if (stp st fu false).1 = true then 0 else 2) := by
  have h0 : bars ⟨[], room, st, fu, false⟩ s false = 0 := by unfold bars; simp [hr]
  have h1 : getF s [] = ⟨s, [], 0⟩ := rfl
  unfold append
  rw [if_neg (fun h => h h0), if_neg (by simp), if_neg (by show ¬ maxRoom < (getF s []).data.length + b.length; rw [h1]; simp only [List.length_nil]; omega)]
  simp only [step_eq]
  show (AD.mk (put { getF s [] with data := (getF s []).data ++ b } []) _ _ _ _, _) = _
  rw [h1]
  rfl
theorem append_one {s : Nm} {d b : List Nat} {k room st fu : Nat} (hr : right s = true) (hb : d.length + b.length ≤ maxRoom) :
    append ⟨[⟨s, d, k⟩], room, st, fu, false⟩ s b = (⟨[⟨s, d ++ b, k⟩], room, (stp st fu false).2.1, (stp st fu false).2.2.1, (stp st fu false).2.2.2⟩, if (stp st fu false).1 = true then 0 else 2) := by
  unfold append
  rw [if_neg (fun h => h (bars_one hr)), if_neg (fun h => by have h1 := h.1; rw [show (AD.mk [(⟨s, d, k⟩ : Fl)] room st fu false).fs = [⟨s, d, k⟩] from rfl, fnd_one] at h1; cases h1)]
  simp only [getF_one]
  rw [if_neg (by omega)]
  simp only [step_eq, put_one]
theorem sync_one {s : Nm} {d : List Nat} {k room st fu : Nat} (hr : right s = true) (hb : d.length ≤ room) (hf : fu ≠ 1) :
    sync ⟨[⟨s, d, k⟩], room, st, fu, false⟩ s = (⟨[⟨s, d, d.length⟩], room, st + 1, fu - 1, false⟩, 0) := by
  have hp : stp st fu false = (true, st + 1, fu - 1, false) := by unfold stp; rw [if_neg hf]
  unfold sync
  rw [if_neg (fun h => h (bars_one hr))]
  simp only [getF_one, total_one, step_eq, hp, put_one]
  rw [if_neg (by omega), if_neg (by simp)]
theorem crash_one {s : Nm} {d : List Nat} {k room st fu : Nat} {dn : Bool} {keep : List Int} (hk : k ≤ d.length) : ∃ n, k ≤ n ∧ n ≤ d.length ∧
    crash ⟨[⟨s, d, k⟩], room, st, fu, dn⟩ keep = ⟨[⟨s, d.take n, n⟩], room, st, 0, false⟩ ∧ (k = d.length → n = k) := by
  unfold crash
  rw [show (AD.mk [(⟨s, d, k⟩ : Fl)] room st fu dn).fs = [⟨s, d, k⟩] from rfl, names_one]
  simp only [crashes, crash1, getF_one, total_one, put_one]
  refine ⟨_, ?_, ?_, rfl, ?_⟩
  · omega
  · split <;> omega
  · intro h
    split <;> omega
theorem readA_one {s : Nm} {d : List Nat} {k room st fu : Nat} (hr : right s = true) : readA ⟨[⟨s, d, k⟩], room, st, fu, false⟩ s = (d, 0) := by
  unfold readA
  rw [if_neg (fun h => h (bars_one hr))]
  simp only [getF_one]
theorem stp_on {st fu : Nat} {dn : Bool} (h : (stp st fu dn).1 = true) : fu ≠ 1 ∧ stp st fu dn = (true, st + 1, fu - 1, dn) := by
  unfold stp at h ⊢
  by_cases hf : fu = 1
  · simp [hf] at h
  · exact ⟨hf, by rw [if_neg hf]⟩
end Go.Dk
