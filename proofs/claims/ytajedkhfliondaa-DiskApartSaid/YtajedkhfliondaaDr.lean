/-
  The disk's reading calls, of a disk wherever it lies.
  Conditions: those of a disk.
-/
import Derived.Test.YtajedkhfliondaaDq
import Derived.Test.YtajedkhfliondaaDwA
namespace Go.Dk
open Go Go.Vm Go.RowKit Go.Proofs Go.Cu
set_option linter.unusedVariables false
set_option linter.unusedSimpArgs false
variable {bD : Nat} {A : AD} {Hd : Hp} {w : World}
theorem Free_d (hD : DiskIs bD A Hd) (hA : A.ok) (hb : Blocks Hd w) : Vm.Pure Try.prog 17 #[dptr bD] w (.int .i64 (A.room - total A.fs : Nat)) := by
  obtain ⟨r, bm, hr, rfl, hb⟩ := hD.read hb
  obtain ⟨fs, clk, room, steps, fuse, down⟩ := r
  exact Free_ok (fs := fs) hr.borns hr.old hA.fits hA.room hb
theorem Steps_d (hD : DiskIs bD A Hd) (hb : Blocks Hd w) : Vm.Pure Try.prog 23 #[dptr bD] w (.int .i64 (A.steps : Nat)) := by
  obtain ⟨r, bm, hr, rfl, hb⟩ := hD.read hb
  obtain ⟨fs, clk, room, steps, fuse, down⟩ := r
  exact Steps_ok (fs := fs) hb
theorem Down_d (hD : DiskIs bD A Hd) (hb : Blocks Hd w) : Vm.Pure Try.prog 24 #[dptr bD] w (.bool A.down) := by
  obtain ⟨r, bm, hr, rfl, hb⟩ := hD.read hb
  obtain ⟨fs, clk, room, steps, fuse, down⟩ := r
  exact Down_ok (fs := fs) hb
theorem Read_d {s : Nm} (hD : DiskIs bD A Hd) (hA : A.ok) (hs : s.length ≤ 9223372036854775807) (hb : Blocks Hd w) : Changes Try.prog 15 #[dptr bD, sv s] w []
    (fun v H' => ∃ ad cap hp n, v = .tuple #[.slice ad n cap, .int .i64 ((readA A s).2 : Nat)] ∧ n = (readA A s).1.length ∧ Own 5 ad n cap hp (bcells (readA A s).1) ∧ hp.Sublist H') := by
  obtain ⟨r, bm, hr, rfl, hb⟩ := hD.read hb
  obtain ⟨fs, clk, room, steps, fuse, down⟩ := r
  exact Read_ok (fs := fs) hA hr.files hr.borns hr.old hs hb
theorem List_d (hD : DiskIs bD A Hd) (hA : A.ok) (hb : Blocks Hd w) : Changes Try.prog 25 #[dptr bD] w []
    (fun v H' => ∃ ad cap hp n, v = .slice ad n cap ∧ n = (if A.down = true then ([] : List Nm) else names A.fs).length ∧ Own 9 ad n cap hp (scells (if A.down = true then [] else names A.fs)) ∧ hp.Sublist H') := by
  obtain ⟨r, bm, hr, rfl, hb⟩ := hD.read hb
  obtain ⟨fs, clk, room, steps, fuse, down⟩ := r
  exact List_ok (fs := fs) hA hr.files hr.borns hr.old hb
theorem Image_d (hD : DiskIs bD A Hd) (hA : A.ok) (hb : Blocks Hd w) : Changes Try.prog 18 #[dptr bD] w [] (fun v H' => FilesIs v (image A.fs) H') := by
  obtain ⟨r, bm, hr, rfl, hb⟩ := hD.read hb
  obtain ⟨fs, clk, room, steps, fuse, down⟩ := r
  exact Image_ok (fs := fs) hA hr.files hr.borns hr.old hb
end Go.Dk
