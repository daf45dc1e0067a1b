/-
  The disk's sum of safe bytes, its steps: the walks. Conditions: those of a disk.
-/
import Derived.Test.YtajedkhfliondaaDn
namespace Go.Dk
open Go Go.Vm Go.RowKit Go.Proofs Go.Cu
attribute [local irreducible] W OpsW Det Fresh New Writes Vm.Pure Makes Changes ExternTo BuildTo ZeroTo FieldTo IndexTo BinTo SliceTo Vm.Enters
set_option linter.unusedVariables false
set_option linter.unusedSimpArgs false

theorem tm64 : TyM Try.prog 64 9 69 (fval none 0 0 0) := ⟨by kernel_rfl, by kernel_rfl, fun _ => by kernel_rfl⟩
theorem u64m : Try.prog.underlying 64 = some (.map 9 69) := by kernel_rfl
abbrev dptr (bD : Nat) : Value := .pointer (some ⟨bD, 0, none⟩)

theorem en33 : Vm.Enters Try.prog 33 := Vm.Enters.of fun _ _ => by kernel_rfl
theorem fl66_0 : TyF Try.prog 66 0 0 1 := ⟨⟨64, by kernel_rfl, by kernel_rfl⟩, by decide⟩
theorem fl69_1 : TyF Try.prog 69 1 1 1 := ⟨⟨3, by kernel_rfl, by kernel_rfl⟩, by decide⟩
theorem sz69 : sizeIn Try.prog 69 = some 2 := by kernel_rfl
theorem ty3 : TyC Try.prog 3 := ⟨by kernel_rfl, by kernel_rfl⟩
theorem ty64 : TyC Try.prog 64 := ⟨by kernel_rfl, by kernel_rfl⟩
theorem z69 : TyZ Try.prog 69 (.agg #[.slice none 0 0, .int .i64 0]) [.slice none 0 0, .int .i64 0] := ⟨fun _ => by kernel_rfl, by kernel_rfl⟩
theorem safe_ok {bD bm clk room steps fuse : Nat} {down : Bool} {fs : List FE} (hnd : (fs.map (·.born)).Nodup) (hold : ∀ f ∈ fs, f.born < clk) (ht : total (fs.map FE.fl) ≤ 9223372036854775807) {w : World} (hG : Blocks ((bD, dblk bm room steps fuse down) :: (bm, mobj (fs.map FE.me) clk) :: fhp fs) w)  : Vm.Pure Try.prog 33 #[dptr bD] w (.int .i64 (total (fs.map FE.fl) : Nat)) := by
  refine pure_of_W (n := 20) (args := [dptr bD]) Try.func33 rfl Try.ntmps33 (Nat.le_of_ble_eq_true rfl) hG ?_
  refine sStart ?_
  refine sSeq ?_
  refine W.region ?_
  refine OpsW.det (det_assign rfl) rfl ?_
  refine sNext ?_
  refine W.keep (F' := [(0, _)]) ⟨rfl, trivial⟩ ?_
  refine sSeq ?_
  refine W.region ?_
  refine OpsW.det (det_assign rfl) rfl ?_
  refine sNext ?_
  refine sSeq ?_
  refine sSeq ?_
  refine W.region ?_
  refine OpsW.det (det_move rfl) rfl ?_
  refine OpsW.det (det_nilCheck rfl) rfl ?_
  refine OpsW.det (det_fieldAddr fl66_0 rfl) rfl ?_
  refine OpsW.det (det_loadC_ro ty64 rfl (List.Mem.head _) rfl) rfl ?_
  refine OpsW.new (fr_range u64m rfl (.inr (List.Mem.tail _ (List.Mem.head _)))) rfl fun p10 hp10 => ?_
  refine sNext ?_
  refine W.keep (F' := [(10, _), (3, _)]) ⟨rfl, rfl, trivial⟩ ?_
  refine sBlock ?_
  refine sLoop (σ := List FE × Nat) (fun s => [(10, .pointer (some ⟨p10.1, 0, none⟩)), (3, .int .i64 (s.2 : Nat))]) (fun s => [(p10.1, iobj bm clk (s.1.map (·.born)) clk)]) (fun s => Going fs s.1 ∧ s.2 = total (s.1.map FE.fl)) (fun s => fs.length - s.1.length) ([], 0) ⟨going_nil, rfl⟩ ⟨rfl, rfl, trivial⟩ (List.Sublist.refl _) ?_
  rintro ⟨done, n⟩ ⟨hg, hn⟩
  change Going fs done at hg
  change n = total (done.map FE.fl) at hn
  refine W.norm (F' := [(10, .pointer (some ⟨p10.1, 0, none⟩)), (3, .int .i64 (n : Nat))]) (H' := [(p10.1, iobj bm clk (done.map (·.born)) clk)]) rfl rfl ?_
  refine sSeq ?_
  refine W.region ?_
  refine OpsW.next (l := fs.map FE.me) (c := clk) (bm := bm) (it := p10.1) (seen := (done.map (·.born))) (since := clk) (last := clk) rfl (.inr (List.Mem.tail _ (List.Mem.head _))) (List.Mem.head _) (me_born hold) (Nat.le_refl _) rfl (fun hend => ?_) (fun e he hne => ⟨_, Upd.here, ?_⟩)
  · skip
    have hpm := going_end hnd hg hend
    refine OpsW.det (det_extract rfl rfl) rfl ?_
    refine sNext ?_
    refine W.keep (F' := [(12, _), (10, _), (3, _)]) ⟨rfl, rfl, rfl, trivial⟩ ?_
    refine sSeq ?_
    refine W.cond_false rfl ?_
    refine sExit ?_
    refine xLoop ?_
    refine xHere ?_
    refine W.keep (F' := [(3, _)]) ⟨rfl, trivial⟩ ?_
    refine sSeq ?_
    refine W.region ?_
    refine OpsW.det (det_move rfl) rfl ?_
    refine OpsW.det (det_assign rfl) rfl ?_
    refine sNext ?_
    refine W.keep (F' := [(2, _)]) ⟨rfl, trivial⟩ ?_
    refine sRet ?_
    exact done1 Try.results33 (rv_tmp rfl) (congrArg (fun n : Nat => Value.int .i64 (n : Int)) (by rw [hn, perm_total hpm]))
  · skip
    obtain ⟨f, hf, rfl⟩ := List.mem_map.1 he
    obtain ⟨hg2, hlt, htot⟩ := going_step hg hf hne
    refine OpsW.det (det_extract rfl rfl) rfl ?_
    refine sNext ?_
    refine W.keep (F' := [(12, _), (10, _), (3, _)]) ⟨rfl, rfl, rfl, trivial⟩ ?_
    refine sSeq ?_
    refine W.cond_true rfl ?_
    refine sSkip ?_
    refine sBlock ?_
    refine sSeq ?_
    refine W.region ?_
    refine OpsW.det (det_entry (e := f.me) rfl (.inr (List.Mem.tail _ (List.Mem.head _))) (List.Mem.head _) (me_borns hnd) he) rfl ?_
    refine OpsW.det (det_extract rfl rfl) rfl ?_
    refine OpsW.fresh (fr_alloc z69) rfl fun b5 => ?_
    refine OpsW.store sz69 rfl rfl rfl rfl rfl (Upd.here) rfl ?_
    refine sNext ?_
    refine W.keep (F' := [(5, _), (10, _), (3, _)]) ⟨rfl, rfl, rfl, trivial⟩ ?_
    refine W.region ?_
    refine OpsW.det (det_move rfl) rfl ?_
    refine OpsW.det (det_fieldAddr fl69_1 rfl) rfl ?_
    refine OpsW.det (det_loadC ty3 rfl (List.Mem.head _) rfl) rfl ?_
    refine OpsW.det (det_addN rfl rfl (by omega)) rfl ?_
    refine OpsW.det (det_assign rfl) rfl ?_
    refine sLast ?_
    refine bLast ?_
    exact rEnd (done ++ [f], n + f.safe) ⟨hg2, by rw [List.map_append, total_app, hn]; rfl⟩ ⟨rfl, rfl, trivial⟩ (by rw [List.map_append]; exact List.sublist_cons_self _ _) (by show fs.length - (done ++ [f]).length < fs.length - done.length; rw [List.length_append]; simp; omega)

end Go.Dk
