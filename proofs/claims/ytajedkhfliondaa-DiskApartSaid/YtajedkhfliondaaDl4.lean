/-
  A sync that finds no room: the walk. Conditions: as many bytes as memory has.
-/
import Derived.Test.YtajedkhfliondaaDl3
namespace Go.Dk
open Go Go.Vm Go.RowKit Go.Proofs Go.Cu
attribute [local irreducible] W OpsW Det Fresh New Writes Vm.Pure Makes Changes ExternTo BuildTo ZeroTo FieldTo IndexTo BinTo SliceTo Vm.Enters
set_option linter.unusedVariables false
set_option linter.unusedSimpArgs false

theorem stp0 {st : Nat} : stp st 0 false = (true, st + 1, 0, false) := rfl
theorem right97 : right [97] = true := by decide
theorem right98 : right [98] = true := by decide
theorem two_fnd {x y : Fl} (hx : x.nm = [97]) (hy : y.nm = [98]) : fnd [97] [x, y] = some x ∧ fnd [98] [x, y] = some y := by
  constructor <;> simp [fnd, hx, hy]
theorem df1 {k : Int} {a : List Nat} (ha : a.length ≤ maxRoom) : append (fresh k) [97] a = (⟨[⟨[97], a, 0⟩], (fresh k).room, 1, 0, false⟩, 0) := append_new (s := [97]) (b := a) (room := (fresh k).room) (st := 0) (fu := 0) right97 ha
theorem df1n {k : Int} {a : List Nat} (ha : ¬ a.length ≤ maxRoom) : append (fresh k) [97] a = (fresh k, 18) := by
  have h0 : bars (fresh k) [97] false = 0 := by unfold bars; simp [right97, fresh]
  unfold append
  rw [if_neg (fun h => h h0), if_neg (by simp [fresh]), if_pos (by show maxRoom < ([] : List Nat).length + a.length; rw [List.length_nil]; omega)]
theorem df2 {R : Nat} {a b : List Nat} (hb : b.length ≤ maxRoom) : append ⟨[⟨[97], a, 0⟩], R, 1, 0, false⟩ [98] b = (⟨[⟨[97], a, 0⟩, ⟨[98], b, 0⟩], R, 2, 0, false⟩, 0) := by
  have h0 : bars ⟨[⟨[97], a, 0⟩], R, 1, 0, false⟩ [98] false = 0 := by unfold bars; simp [right98]
  have hg : getF [98] [⟨[97], a, 0⟩] = ⟨[98], [], 0⟩ := rfl
  unfold append
  rw [if_neg (fun h => h h0), if_neg (by simp)]
  simp only [hg]
  rw [if_neg (by simp only [List.length_nil]; omega)]
  rfl
theorem df2n {R : Nat} {a b : List Nat} (hb : ¬ b.length ≤ maxRoom) : append ⟨[⟨[97], a, 0⟩], R, 1, 0, false⟩ [98] b = (⟨[⟨[97], a, 0⟩], R, 1, 0, false⟩, 18) := by
  have h0 : bars ⟨[⟨[97], a, 0⟩], R, 1, 0, false⟩ [98] false = 0 := by unfold bars; simp [right98]
  have hg : getF [98] [⟨[97], a, 0⟩] = ⟨[98], [], 0⟩ := rfl
  unfold append
  rw [if_neg (fun h => h h0), if_neg (by simp)]
  simp only [hg]
  rw [if_pos (by simp only [List.length_nil]; omega)]
theorem df3 {R st : Nat} {a b : List Nat} (h : a.length ≤ R) : sync ⟨[⟨[97], a, 0⟩, ⟨[98], b, 0⟩], R, st, 0, false⟩ [97] = (⟨[⟨[97], a, a.length⟩, ⟨[98], b, 0⟩], R, st + 1, 0, false⟩, 0) := by
  have h0 : bars ⟨[⟨[97], a, 0⟩, ⟨[98], b, 0⟩], R, st, 0, false⟩ [97] true = 0 := by unfold bars; simp [right97, fnd]
  have hg : getF [97] [⟨[97], a, 0⟩, ⟨[98], b, 0⟩] = ⟨[97], a, 0⟩ := getF_of (two_fnd rfl rfl).1
  have ht : total [⟨[97], a, 0⟩, ⟨[98], b, 0⟩] = 0 := rfl
  unfold sync
  rw [if_neg (fun h => h h0)]
  simp only [hg, ht]
  rw [if_neg (by omega), if_neg (by rw [step_eq]; simp [stp0])]
  rfl
theorem df3n {R st : Nat} {a b : List Nat} (h : ¬ a.length ≤ R) : sync ⟨[⟨[97], a, 0⟩, ⟨[98], b, 0⟩], R, st, 0, false⟩ [97] = (⟨[⟨[97], a, 0⟩, ⟨[98], b, 0⟩], R, st, 0, false⟩, 42) := by
  have h0 : bars ⟨[⟨[97], a, 0⟩, ⟨[98], b, 0⟩], R, st, 0, false⟩ [97] true = 0 := by unfold bars; simp [right97, fnd]
  have hg : getF [97] [⟨[97], a, 0⟩, ⟨[98], b, 0⟩] = ⟨[97], a, 0⟩ := getF_of (two_fnd rfl rfl).1
  have ht : total [⟨[97], a, 0⟩, ⟨[98], b, 0⟩] = 0 := rfl
  unfold sync
  rw [if_neg (fun h => h h0)]
  simp only [hg, ht]
  rw [if_pos (by omega)]
theorem df4 {R st sa : Nat} {a b : List Nat} (h : sa + b.length ≤ R) : sync ⟨[⟨[97], a, sa⟩, ⟨[98], b, 0⟩], R, st, 0, false⟩ [98] = (⟨[⟨[97], a, sa⟩, ⟨[98], b, b.length⟩], R, st + 1, 0, false⟩, 0) := by
  have h0 : bars ⟨[⟨[97], a, sa⟩, ⟨[98], b, 0⟩], R, st, 0, false⟩ [98] true = 0 := by unfold bars; simp [right98, fnd]
  have hg : getF [98] [⟨[97], a, sa⟩, ⟨[98], b, 0⟩] = ⟨[98], b, 0⟩ := getF_of (two_fnd rfl rfl).2
  have ht : total [⟨[97], a, sa⟩, ⟨[98], b, 0⟩] = sa := by simp [total]
  unfold sync
  rw [if_neg (fun h => h h0)]
  simp only [hg, ht]
  rw [if_neg (by omega), if_neg (by rw [step_eq]; simp [stp0])]
  rfl
theorem df4n {R st sa : Nat} {a b : List Nat} (h : ¬ sa + b.length ≤ R) : sync ⟨[⟨[97], a, sa⟩, ⟨[98], b, 0⟩], R, st, 0, false⟩ [98] = (⟨[⟨[97], a, sa⟩, ⟨[98], b, 0⟩], R, st, 0, false⟩, 42) := by
  have h0 : bars ⟨[⟨[97], a, sa⟩, ⟨[98], b, 0⟩], R, st, 0, false⟩ [98] true = 0 := by unfold bars; simp [right98, fnd]
  have hg : getF [98] [⟨[97], a, sa⟩, ⟨[98], b, 0⟩] = ⟨[98], b, 0⟩ := getF_of (two_fnd rfl rfl).2
  have ht : total [⟨[97], a, sa⟩, ⟨[98], b, 0⟩] = sa := by simp [total]
  unfold sync
  rw [if_neg (fun h => h h0)]
  simp only [hg, ht]
  rw [if_pos (by omega)]
theorem df5 {R st sa : Nat} {a b : List Nat} : drop ⟨[⟨[97], a, sa⟩, ⟨[98], b, 0⟩], R, st, 0, false⟩ [97] = (⟨[⟨[98], b, 0⟩], R, st + 1, 0, false⟩, 0) := by
  have h0 : bars ⟨[⟨[97], a, sa⟩, ⟨[98], b, 0⟩], R, st, 0, false⟩ [97] true = 0 := by unfold bars; simp [right97, fnd]
  unfold drop
  rw [if_neg (fun h => h h0), if_neg (by rw [step_eq]; simp [stp0])]
  rfl
theorem df6 {R st m : Nat} {b : List Nat} (h : m ≤ b.length) : cut ⟨[⟨[98], b, 0⟩], R, st, 0, false⟩ [98] ((m : Nat) : Int) = (⟨[⟨[98], b.take m, 0⟩], R, st + 1, 0, false⟩, 0) := by
  unfold cut
  rw [if_neg (fun h => h (bars_one right98))]
  simp only [getF_one, put_one, Int.toNat_natCast]
  rw [if_neg (by omega), if_neg (by rw [step_eq]; simp [stp0])]
  simp only [step_eq, stp0, Nat.zero_min]
theorem ok_two {x y : Fl} {room st fu : Nat} {dn : Bool} (hx : x.nm = [97]) (hy : y.nm = [98]) (h1 : x.safe ≤ x.data.length) (h2 : y.safe ≤ y.data.length) (h3 : x.data.length ≤ maxRoom) (h4 : y.data.length ≤ maxRoom) (h5 : ∀ c ∈ x.data, c < 256) (h6 : ∀ c ∈ y.data, c < 256)
    (h7 : x.safe + y.safe ≤ room) (h8 : room ≤ maxRoom) (h9 : fu ≤ 9223372036854775807) : AD.ok ⟨[x, y], room, st, fu, dn⟩ := by
  refine ⟨by simp [hx, hy], fun f hf => ?_, fun f hf => ?_, fun f hf => ?_, by show total [x, y] ≤ room; simp only [total, List.map_cons, List.map_nil, List.sum_cons, List.sum_nil]; omega, h8, by show 2 ≤ 32; decide, h9⟩
  all_goals
    simp only [List.mem_cons, List.not_mem_nil, or_false] at hf
    rcases hf with rfl | rfl <;> first | assumption | exact Nat.le_trans h3 max_big | exact Nat.le_trans h4 max_big
theorem fresh_room (k : Int) : (fresh k).room ≤ maxRoom := (fresh_ok k).room
theorem image_len (fs : List Fl) : (image fs).length = fs.length := by unfold image; rw [List.length_map, names_length]
theorem image_small {A : AD} (hA : A.ok) : ∀ x ∈ (image A.fs).map ft, x.2.1.length ≤ 9223372036854775806 := fun x hx => by
  obtain ⟨f, hf, rfl⟩ := List.mem_map.1 hx
  unfold image at hf
  obtain ⟨s, hs, rfl⟩ := List.mem_map.1 hf
  have := hA.size _ (getF_mem (fnd_of_name hs)).1
  show (getF s A.fs).data.length ≤ _
  unfold bigRoom at this
  omega

theorem en18 : Vm.Enters Try.prog 18 := Vm.Enters.of fun _ _ => by kernel_rfl
theorem en19 : Vm.Enters Try.prog 19 := Vm.Enters.of fun _ _ => by kernel_rfl
theorem en20 : Vm.Enters Try.prog 20 := Vm.Enters.of fun _ _ => by kernel_rfl
theorem en21 : Vm.Enters Try.prog 21 := Vm.Enters.of fun _ _ => by kernel_rfl
theorem u4 : Try.prog.underlying 4 = some (.bool) := by kernel_rfl
theorem DiskFull_ok {G' : Hp} {va vb : Value} {a b : List Nat} (hBa : Bs G' va a) (hBb : Bs G' vb b) (hla : a.length ≤ 140737488355328) (hlb : b.length ≤ 140737488355328) {k : Int} {w : World} (hG : Blocks G' w)  : Vm.Pure Try.prog 4 #[.int .i64 k, va, vb] w (.bool true) := by
  obtain ⟨ada, ca, hva⟩ := hBa.shape
  obtain ⟨adb, cb, hvb⟩ := hBb.shape
  have hsa := hBa.small
  have hsb := hBb.small
  have hR := fresh_room k
  refine pure_of_W (n := 94) (args := [.int .i64 k, va, vb]) Try.func4 rfl Try.ntmps4 (Nat.le_of_ble_eq_true rfl) hG ?_
  refine sStart ?_
  refine sSeq ?_
  subst hva
  subst hvb
  refine W.region ?_
  refine OpsW.det (det_assign rfl) rfl ?_
  refine sNext ?_
  refine W.keep (F' := [(0, _), (1, _), (2, _)]) ⟨rfl, rfl, rfl, trivial⟩ ?_
  refine sSeq ?_
  refine sSeq ?_
  refine W.region ?_
  refine OpsW.det (Det.to (det_call en9 rfl (fun w hb ho => head17_ok nob)) (congrArg Value.bool (rfl))) rfl ?_
  refine OpsW.det (det_not rfl) rfl ?_
  refine sNext ?_
  refine W.keep (F' := [(12, _), (0, _), (1, _), (2, _)]) ⟨rfl, rfl, rfl, rfl, trivial⟩ ?_
  refine W.cond_false rfl ?_
  refine sSkip ?_
  refine sSeq ?_
  refine W.region ?_
  refine OpsW.det (det_move rfl) rfl ?_
  refine OpsW.change (Hf := []) en8 rfl (fun w hb hbn ho hbm => New_ok nob) rfl (fun v14 H14 hS14 => ?_)
  obtain ⟨bD, rfl, hD0⟩ := hS14
  refine OpsW.det (det_assign rfl) rfl ?_
  refine sNext ?_
  refine W.keep (F' := [(7, _), (1, _), (2, _)]) ⟨rfl, rfl, rfl, trivial⟩ ?_
  refine sSeq ?_
  refine sSeq ?_
  rcases (show (¬ a.length ≤ maxRoom) ∨ (a.length ≤ maxRoom ∧ ¬ b.length ≤ maxRoom) ∨ (a.length ≤ maxRoom ∧ b.length ≤ maxRoom) by omega) with hq | hq | hq
  · skip
    have hmx : maxRoom = 4194304 := rfl
    refine W.region ?_
    refine OpsW.det (det_move rfl) rfl ?_
    refine OpsW.det (det_move rfl) rfl ?_
    refine OpsW.new (new_call en11 rfl (fun w hb ho => Copy_ok hBa (by omega) ho.blocks)) rfl fun p17 hp17 => ?_
    refine OpsW.changeM (Hl := [(_, _)]) (Hd := H14) (Hr := []) en10 rfl (fun w hb hbn ho hbm => Append_ok hD0 (fresh_ok _) (Nat.le_of_ble_eq_true rfl) (by decide) ((Bs.of (l := a) (spare := []) (e := 5) (fr := (0, 0)) hsa (Nat.le_refl _)).mono (fun p hp => by rw [List.mem_singleton.1 hp]; exact (List.Mem.head _))) (by omega) (bl_left (Hl := [(_, _)]) hb) (bl_mid (Hl := [(_, _)]) hb) (nd_mid (Hl := [(_, _)]) hbn) (nd_dis (Hl := [(_, _)]) hbn)) rfl (fun v18 H18 hS18 => ?_)
    obtain ⟨hv18, hD1⟩ := hS18
    rw [df1n hq] at hv18 hD1
    subst hv18
    refine OpsW.norm (H' := ((_, _) :: (H18 ++ []))) rfl rfl ?_
    refine OpsW.det (Det.to (det_neq rfl rfl) (congrArg Value.bool (rfl))) rfl ?_
    refine OpsW.det (det_move rfl) rfl ?_
    refine OpsW.guard_no rfl rfl rfl ?_
    refine OpsW.guard_no rfl rfl rfl ?_
    refine OpsW.guard_no rfl rfl rfl ?_
    refine OpsW.guard_no rfl rfl rfl ?_
    refine OpsW.guard_no rfl rfl rfl ?_
    refine OpsW.det (det_pick rfl rfl) rfl ?_
    refine sNext ?_
    refine W.keep (F' := [(26, _), (7, _), (1, _), (2, _)]) ⟨rfl, rfl, rfl, rfl, trivial⟩ ?_
    refine W.cond_true rfl ?_
    refine sSeq ?_
    refine W.region ?_
    refine OpsW.det (det_move rfl) rfl ?_
    refine OpsW.det (det_len u22 rfl) rfl ?_
    refine OpsW.det (Det.to (det_gtr rfl rfl) (congrArg Value.bool (decide_eq_true (by omega)))) rfl ?_
    refine OpsW.det (det_move rfl) rfl ?_
    refine OpsW.guard_no rfl rfl rfl ?_
    refine OpsW.guard_no rfl rfl rfl ?_
    refine OpsW.guard_no rfl rfl rfl ?_
    refine OpsW.det (det_pick rfl rfl) rfl ?_
    refine OpsW.det (det_assign rfl) rfl ?_
    refine sNext ?_
    refine W.keep (F' := [(6, _)]) ⟨rfl, trivial⟩ ?_
    refine sRet ?_
    exact done1 Try.results4 (rv_tmp rfl) rfl
  · skip
    have hmx : maxRoom = 4194304 := rfl
    refine W.region ?_
    refine OpsW.det (det_move rfl) rfl ?_
    refine OpsW.det (det_move rfl) rfl ?_
    refine OpsW.new (new_call en11 rfl (fun w hb ho => Copy_ok hBa (by omega) ho.blocks)) rfl fun p17 hp17 => ?_
    refine OpsW.changeM (Hl := [(_, _)]) (Hd := H14) (Hr := []) en10 rfl (fun w hb hbn ho hbm => Append_ok hD0 (fresh_ok _) (Nat.le_of_ble_eq_true rfl) (by decide) ((Bs.of (l := a) (spare := []) (e := 5) (fr := (0, 0)) hsa (Nat.le_refl _)).mono (fun p hp => by rw [List.mem_singleton.1 hp]; exact (List.Mem.head _))) (by omega) (bl_left (Hl := [(_, _)]) hb) (bl_mid (Hl := [(_, _)]) hb) (nd_mid (Hl := [(_, _)]) hbn) (nd_dis (Hl := [(_, _)]) hbn)) rfl (fun v18 H18 hS18 => ?_)
    obtain ⟨hv18, hD1⟩ := hS18
    rw [df1 hq.1] at hv18 hD1
    subst hv18
    refine OpsW.norm (H' := ((_, _) :: (H18 ++ []))) rfl rfl ?_
    refine OpsW.det (Det.to (det_neq rfl rfl) (congrArg Value.bool (rfl))) rfl ?_
    refine OpsW.det (det_move rfl) rfl ?_
    refine OpsW.guard_yes rfl rfl ?_
    refine OpsW.det (det_move rfl) rfl ?_
    refine OpsW.guard_yes rfl rfl ?_
    refine OpsW.det (det_move rfl) rfl ?_
    refine OpsW.guard_yes rfl rfl ?_
    refine OpsW.new (new_call en11 rfl (fun w hb ho => Copy_ok hBb (by omega) ho.blocks)) rfl fun p23 hp23 => ?_
    refine OpsW.guard_yes rfl rfl ?_
    refine OpsW.changeM (Hl := [(_, _), (_, _)]) (Hd := H18) (Hr := []) en10 rfl (fun w hb hbn ho hbm => Append_ok hD1 (ok_one (Nat.zero_le _) (by omega) hsa (Nat.zero_le _) hR (by omega)) (Nat.le_of_ble_eq_true rfl) (by decide) ((Bs.of (l := b) (spare := []) (e := 5) (fr := (0, 0)) hsb (Nat.le_refl _)).mono (fun p hp => by rw [List.mem_singleton.1 hp]; exact (List.Mem.head _))) (by omega) (bl_left (Hl := [(_, _), (_, _)]) hb) (bl_mid (Hl := [(_, _), (_, _)]) hb) (nd_mid (Hl := [(_, _), (_, _)]) hbn) (nd_dis (Hl := [(_, _), (_, _)]) hbn)) rfl (fun v24 H24 hS24 => ?_)
    obtain ⟨hv24, hD2⟩ := hS24
    rw [df2n hq.2] at hv24 hD2
    subst hv24
    refine OpsW.norm (H' := ((_, _) :: (_, _) :: (H24 ++ []))) rfl rfl ?_
    refine OpsW.guard_yes rfl rfl ?_
    refine OpsW.det (Det.to (det_neq rfl rfl) (congrArg Value.bool (rfl))) rfl ?_
    refine OpsW.det (det_pick rfl rfl) rfl ?_
    refine sNext ?_
    refine W.keep (F' := [(26, _), (7, _), (1, _), (2, _)]) ⟨rfl, rfl, rfl, rfl, trivial⟩ ?_
    refine W.cond_true rfl ?_
    refine sSeq ?_
    refine W.region ?_
    refine OpsW.det (det_move rfl) rfl ?_
    refine OpsW.det (det_len u22 rfl) rfl ?_
    refine OpsW.det (Det.to (det_gtr rfl rfl) (congrArg Value.bool (decide_eq_false (by omega)))) rfl ?_
    refine OpsW.det (det_move rfl) rfl ?_
    refine OpsW.guard_yes rfl rfl ?_
    refine OpsW.det (det_move rfl) rfl ?_
    refine OpsW.guard_yes rfl rfl ?_
    refine OpsW.det (det_len u22 rfl) rfl ?_
    refine OpsW.guard_yes rfl rfl ?_
    refine OpsW.det (Det.to (det_gtr rfl rfl) (congrArg Value.bool (decide_eq_true (by omega)))) rfl ?_
    refine OpsW.det (det_pick rfl rfl) rfl ?_
    refine OpsW.det (det_assign rfl) rfl ?_
    refine sNext ?_
    refine W.keep (F' := [(6, _)]) ⟨rfl, trivial⟩ ?_
    refine sRet ?_
    exact done1 Try.results4 (rv_tmp rfl) rfl
  · skip
    obtain ⟨hal, hbl2⟩ := hq
    have hmx : maxRoom = 4194304 := rfl
    refine W.region ?_
    refine OpsW.det (det_move rfl) rfl ?_
    refine OpsW.det (det_move rfl) rfl ?_
    refine OpsW.new (new_call en11 rfl (fun w hb ho => Copy_ok hBa (by omega) ho.blocks)) rfl fun p17 hp17 => ?_
    refine OpsW.changeM (Hl := [(_, _)]) (Hd := H14) (Hr := []) en10 rfl (fun w hb hbn ho hbm => Append_ok hD0 (fresh_ok _) (Nat.le_of_ble_eq_true rfl) (by decide) ((Bs.of (l := a) (spare := []) (e := 5) (fr := (0, 0)) hsa (Nat.le_refl _)).mono (fun p hp => by rw [List.mem_singleton.1 hp]; exact (List.Mem.head _))) (by omega) (bl_left (Hl := [(_, _)]) hb) (bl_mid (Hl := [(_, _)]) hb) (nd_mid (Hl := [(_, _)]) hbn) (nd_dis (Hl := [(_, _)]) hbn)) rfl (fun v18 H18 hS18 => ?_)
    obtain ⟨hv18, hD1⟩ := hS18
    rw [df1 hal] at hv18 hD1
    subst hv18
    refine OpsW.norm (H' := ((_, _) :: (H18 ++ []))) rfl rfl ?_
    refine OpsW.det (Det.to (det_neq rfl rfl) (congrArg Value.bool (rfl))) rfl ?_
    refine OpsW.det (det_move rfl) rfl ?_
    refine OpsW.guard_yes rfl rfl ?_
    refine OpsW.det (det_move rfl) rfl ?_
    refine OpsW.guard_yes rfl rfl ?_
    refine OpsW.det (det_move rfl) rfl ?_
    refine OpsW.guard_yes rfl rfl ?_
    refine OpsW.new (new_call en11 rfl (fun w hb ho => Copy_ok hBb (by omega) ho.blocks)) rfl fun p23 hp23 => ?_
    refine OpsW.guard_yes rfl rfl ?_
    refine OpsW.changeM (Hl := [(_, _), (_, _)]) (Hd := H18) (Hr := []) en10 rfl (fun w hb hbn ho hbm => Append_ok hD1 (ok_one (Nat.zero_le _) (by omega) hsa (Nat.zero_le _) hR (by omega)) (Nat.le_of_ble_eq_true rfl) (by decide) ((Bs.of (l := b) (spare := []) (e := 5) (fr := (0, 0)) hsb (Nat.le_refl _)).mono (fun p hp => by rw [List.mem_singleton.1 hp]; exact (List.Mem.head _))) (by omega) (bl_left (Hl := [(_, _), (_, _)]) hb) (bl_mid (Hl := [(_, _), (_, _)]) hb) (nd_mid (Hl := [(_, _), (_, _)]) hbn) (nd_dis (Hl := [(_, _), (_, _)]) hbn)) rfl (fun v24 H24 hS24 => ?_)
    obtain ⟨hv24, hD2⟩ := hS24
    rw [df2 hbl2] at hv24 hD2
    subst hv24
    refine OpsW.norm (H' := ((_, _) :: (_, _) :: (H24 ++ []))) rfl rfl ?_
    refine OpsW.guard_yes rfl rfl ?_
    refine OpsW.det (Det.to (det_neq rfl rfl) (congrArg Value.bool (rfl))) rfl ?_
    refine OpsW.det (det_pick rfl rfl) rfl ?_
    refine sNext ?_
    refine W.keep (F' := [(26, _), (7, _), (1, _), (2, _)]) ⟨rfl, rfl, rfl, rfl, trivial⟩ ?_
    refine W.cond_false rfl ?_
    refine sSkip ?_
    refine sSeq ?_
    refine W.region ?_
    refine OpsW.det (det_move rfl) rfl ?_
    refine OpsW.det (det_call en17 rfl (fun w hb ho => Free_d hD2 (ok_two rfl rfl (Nat.zero_le _) (Nat.zero_le _) hal hbl2 hsa hsb (by show 0 + 0 ≤ _; omega) hR (by omega)) (bl_mid (Hl := [(_, _), (_, _)]) hb))) rfl ?_
    refine OpsW.det (det_assign rfl) rfl ?_
    refine sNext ?_
    refine W.keep (F' := [(8, _), (7, _), (1, _), (2, _)]) ⟨rfl, rfl, rfl, rfl, trivial⟩ ?_
    refine sSeq ?_
    rcases (show a.length ≤ (fresh k).room ∨ ¬ a.length ≤ (fresh k).room by omega) with hfa | hfa
    · skip
      refine W.region ?_
      refine OpsW.det (det_move rfl) rfl ?_
      refine OpsW.changeM (Hl := [(_, _), (_, _)]) (Hd := H24) (Hr := []) en12 rfl (fun w hb hbn ho hbm => Sync_ok hD2 (ok_two rfl rfl (Nat.zero_le _) (Nat.zero_le _) hal hbl2 hsa hsb (by show 0 + 0 ≤ _; omega) hR (by omega)) (Nat.le_of_ble_eq_true rfl) (by decide) nob (bl_mid (Hl := [(_, _), (_, _)]) hb) (nd_mid (Hl := [(_, _), (_, _)]) hbn)) rfl (fun v38 H38 hS38 => ?_)
      obtain ⟨hv38, hD3⟩ := hS38
      rw [df3 hfa] at hv38 hD3
      subst hv38
      obtain ⟨sa, st, hD3, hsal, hsaR, hst⟩ : ∃ sa st, DiskIs bD ⟨[⟨[97], a, sa⟩, ⟨[98], b, 0⟩], (fresh k).room, st, 0, false⟩ H38 ∧ sa ≤ a.length ∧ sa ≤ (fresh k).room ∧ st ≤ 3 := ⟨a.length, _, hD3, by omega, by omega, by omega⟩
      refine OpsW.norm (H' := ((_, _) :: (_, _) :: (H38 ++ []))) rfl rfl ?_
      refine OpsW.det (det_assign rfl) rfl ?_
      refine sNext ?_
      refine W.keep (F' := [(9, _), (8, _), (7, _), (1, _), (2, _)]) ⟨rfl, rfl, rfl, rfl, rfl, trivial⟩ ?_
      refine sSeq ?_
      refine sSeq ?_
      refine W.region ?_
      refine OpsW.det (det_move rfl) rfl ?_
      refine OpsW.det (Det.to (det_eql rfl rfl) (congrArg Value.bool (rfl))) rfl ?_
      refine OpsW.det (det_move rfl) rfl ?_
      refine OpsW.det (det_len u22 rfl) rfl ?_
      refine OpsW.det (det_move rfl) rfl ?_
      refine OpsW.det (Det.to (det_leq rfl rfl) (congrArg Value.bool (decide_eq_true (by show _ ≤ (((fresh k).room - total [(⟨[97], a, 0⟩ : Fl), ⟨[98], b, 0⟩] : Nat) : Int); show ((a.length : Nat) : Int) ≤ (((fresh k).room - 0 : Nat) : Int); omega)))) rfl ?_
      refine OpsW.det (Det.to (det_neqb u4 rfl rfl) (congrArg Value.bool (rfl))) rfl ?_
      refine OpsW.det (det_move rfl) rfl ?_
      refine OpsW.guard_yes rfl rfl ?_
      refine OpsW.det (det_move rfl) rfl ?_
      refine OpsW.guard_yes rfl rfl ?_
      refine OpsW.det (Det.to (det_neq rfl rfl) (congrArg Value.bool (rfl))) rfl ?_
      refine OpsW.guard_yes rfl rfl ?_
      refine OpsW.det (det_move rfl) rfl ?_
      refine OpsW.guard_no rfl rfl rfl ?_
      refine OpsW.guard_no rfl rfl rfl ?_
      refine OpsW.guard_yes rfl rfl ?_
      refine OpsW.det (det_pick rfl rfl) rfl ?_
      refine OpsW.det (det_pick rfl rfl) rfl ?_
      refine sNext ?_
      refine W.keep (F' := [(53, _), (7, _), (2, _)]) ⟨rfl, rfl, rfl, trivial⟩ ?_
      refine W.cond_false rfl ?_
      refine sSkip ?_
      refine sSeq ?_
      refine W.region ?_
      refine OpsW.det (det_move rfl) rfl ?_
      refine OpsW.change (Hf := []) en18 rfl (fun w hb hbn ho hbm => Image_d hD3 (ok_two (x := ⟨[97], a, sa⟩) (y := ⟨[98], b, 0⟩) rfl rfl hsal (Nat.zero_le _) hal hbl2 hsa hsb (by show sa + 0 ≤ _; omega) hR (by omega)) (bl_mid (Hl := [(_, _), (_, _)]) hb)) rfl (fun v55 H55 hS55 => ?_)
      obtain ⟨Xi, hfii, hxsi⟩ : ∃ X, FilesIs v55 (image _) X ∧ X.Sublist H55 := ⟨_, hS55, List.Sublist.refl _⟩
      have hfai := FilesIs.ok (ok_two (x := ⟨[97], a, sa⟩) (y := ⟨[98], b, 0⟩) rfl rfl hsal (Nat.zero_le _) hal hbl2 hsa hsb (by show sa + 0 ≤ _; omega) hR (by omega)) hfii
      refine OpsW.tuck (Hl := [(_, _), (_, _)]) (Hd := H38) (Hr := []) (hp := Xi) hxsi ?_
      refine OpsW.norm (H' := ((_, _) :: (_, _) :: (H38 ++ (Xi ++ [])))) rfl rfl ?_
      refine OpsW.det (det_assign rfl) rfl ?_
      refine sNext ?_
      refine W.keep (F' := [(10, _), (7, _), (2, _)]) ⟨rfl, rfl, rfl, trivial⟩ ?_
      refine sSeq ?_
      rcases (show sa + b.length ≤ (fresh k).room ∨ ¬ sa + b.length ≤ (fresh k).room by omega) with hfb | hfb
      · skip
        refine W.region ?_
        refine OpsW.det (det_move rfl) rfl ?_
        refine OpsW.changeM (Hl := [(_, _), (_, _)]) (Hd := H38) (Hr := (Xi ++ [])) en12 rfl (fun w hb hbn ho hbm => Sync_ok hD3 (ok_two (x := ⟨[97], a, sa⟩) (y := ⟨[98], b, 0⟩) rfl rfl hsal (Nat.zero_le _) hal hbl2 hsa hsb (by show sa + 0 ≤ _; omega) hR (by omega)) (by show st < 4611686018427387904; omega) (by decide) nob (bl_mid (Hl := [(_, _), (_, _)]) hb) (nd_mid (Hl := [(_, _), (_, _)]) hbn)) rfl (fun v57 H57 hS57 => ?_)
        obtain ⟨hv57, hD4⟩ := hS57
        rw [df4 hfb] at hv57 hD4
        subst hv57
        refine OpsW.norm (H' := ((_, _) :: (_, _) :: (H57 ++ (Xi ++ [])))) rfl rfl ?_
        refine OpsW.det (det_assign rfl) rfl ?_
        refine sNext ?_
        refine W.keep (F' := [(9, _), (10, _), (7, _), (2, _)]) ⟨rfl, rfl, rfl, rfl, trivial⟩ ?_
        refine sSeq ?_
        refine sSeq ?_
        refine W.region ?_
        refine OpsW.det (det_move rfl) rfl ?_
        refine OpsW.det (Det.to (det_eql rfl rfl) (congrArg Value.bool (rfl))) rfl ?_
        refine sNext ?_
        refine W.keep (F' := [(59, _), (9, _), (10, _), (7, _), (2, _)]) ⟨rfl, rfl, rfl, rfl, rfl, trivial⟩ ?_
        refine W.cond_false rfl ?_
        refine sSkip ?_
        refine sSeq ?_
        refine W.region ?_
        refine OpsW.det (det_move rfl) rfl ?_
        refine OpsW.det (Det.to (det_eql rfl rfl) (congrArg Value.bool (rfl))) rfl ?_
        refine OpsW.det (det_move rfl) rfl ?_
        refine OpsW.guard_yes rfl rfl ?_
        refine OpsW.det (det_move rfl) rfl ?_
        refine OpsW.guard_yes rfl rfl ?_
        refine OpsW.det (det_call en17 rfl (fun w hb ho => Free_d hD4 (ok_two (x := ⟨[97], a, sa⟩) (y := ⟨[98], b, b.length⟩) rfl rfl hsal (Nat.le_refl _) hal hbl2 hsa hsb hfb hR (by omega)) (bl_mid (Hl := [(_, _), (_, _)]) hb))) rfl ?_
        refine OpsW.guard_yes rfl rfl ?_
        refine OpsW.det (Det.to (det_geq rfl rfl) (congrArg Value.bool (decide_eq_true (by omega)))) rfl ?_
        refine OpsW.det (det_pick rfl rfl) rfl ?_
        refine OpsW.det (det_assign rfl) rfl ?_
        refine sNext ?_
        refine W.keep (F' := [(6, _)]) ⟨rfl, trivial⟩ ?_
        refine sRet ?_
        exact done1 Try.results4 (rv_tmp rfl) rfl
      · skip
        refine W.region ?_
        refine OpsW.det (det_move rfl) rfl ?_
        refine OpsW.changeM (Hl := [(_, _), (_, _)]) (Hd := H38) (Hr := (Xi ++ [])) en12 rfl (fun w hb hbn ho hbm => Sync_ok hD3 (ok_two (x := ⟨[97], a, sa⟩) (y := ⟨[98], b, 0⟩) rfl rfl hsal (Nat.zero_le _) hal hbl2 hsa hsb (by show sa + 0 ≤ _; omega) hR (by omega)) (by show st < 4611686018427387904; omega) (by decide) nob (bl_mid (Hl := [(_, _), (_, _)]) hb) (nd_mid (Hl := [(_, _), (_, _)]) hbn)) rfl (fun v57 H57 hS57 => ?_)
        obtain ⟨hv57, hD4⟩ := hS57
        rw [df4n hfb] at hv57 hD4
        subst hv57
        refine OpsW.norm (H' := ((_, _) :: (_, _) :: (H57 ++ (Xi ++ [])))) rfl rfl ?_
        refine OpsW.det (det_assign rfl) rfl ?_
        refine sNext ?_
        refine W.keep (F' := [(9, _), (10, _), (7, _), (2, _)]) ⟨rfl, rfl, rfl, rfl, trivial⟩ ?_
        refine sSeq ?_
        refine sSeq ?_
        refine W.region ?_
        refine OpsW.det (det_move rfl) rfl ?_
        refine OpsW.det (Det.to (det_eql rfl rfl) (congrArg Value.bool (rfl))) rfl ?_
        refine sNext ?_
        refine W.keep (F' := [(59, _), (9, _), (10, _), (7, _), (2, _)]) ⟨rfl, rfl, rfl, rfl, rfl, trivial⟩ ?_
        refine W.cond_true rfl ?_
        refine sSeq ?_
        refine sSeq ?_
        refine W.region ?_
        refine OpsW.det (det_move rfl) rfl ?_
        refine OpsW.change (Hf := []) en18 rfl (fun w hb hbn ho hbm => Image_d hD4 (ok_two (x := ⟨[97], a, sa⟩) (y := ⟨[98], b, 0⟩) rfl rfl hsal (Nat.zero_le _) hal hbl2 hsa hsb (by show sa + 0 ≤ _; omega) hR (by omega)) (bl_mid (Hl := [(_, _), (_, _)]) hb)) rfl (fun v61 H61 hS61 => ?_)
        obtain ⟨Xj, hfij, hxsj⟩ : ∃ X, FilesIs v61 (image _) X ∧ X.Sublist H61 := ⟨_, hS61, List.Sublist.refl _⟩
        have hfaj := FilesIs.ok (ok_two (x := ⟨[97], a, sa⟩) (y := ⟨[98], b, 0⟩) rfl rfl hsal (Nat.zero_le _) hal hbl2 hsa hsb (by show sa + 0 ≤ _; omega) hR (by omega)) hfij
        refine OpsW.tuck (Hl := [(_, _), (_, _)]) (Hd := H57) (Hr := (Xi ++ [])) (hp := Xj) hxsj ?_
        refine OpsW.norm (H' := ((_, _) :: (_, _) :: (H57 ++ (Xj ++ (Xi ++ []))))) rfl rfl ?_
        refine OpsW.det (det_move rfl) rfl ?_
        refine OpsW.det (Det.to (det_call en19 rfl (fun w hb ho => same17_ok (hfaj.mono (fun p hp => List.mem_append_right [(_, _), (_, _)] (List.mem_append_right _ (List.mem_append_left _ hp)))) (hfai.mono (fun p hp => List.mem_append_right [(_, _), (_, _)] (List.mem_append_right _ (List.mem_append_right _ (List.mem_append_left _ hp))))) (by rw [List.length_map, image_len]; show 2 ≤ _; decide) (image_small (ok_two (x := ⟨[97], a, sa⟩) (y := ⟨[98], b, 0⟩) rfl rfl hsal (Nat.zero_le _) hal hbl2 hsa hsb (by show sa + 0 ≤ _; omega) hR (by omega))) hb)) (congrArg Value.bool (decide_eq_true rfl))) rfl ?_
        refine OpsW.det (det_not rfl) rfl ?_
        refine OpsW.det (det_move rfl) rfl ?_
        refine OpsW.guard_yes rfl rfl ?_
        refine OpsW.det (det_move rfl) rfl ?_
        refine OpsW.guard_yes rfl rfl ?_
        refine OpsW.det (det_len u22 rfl) rfl ?_
        refine OpsW.guard_yes rfl rfl ?_
        refine OpsW.det (det_move rfl) rfl ?_
        refine OpsW.guard_yes rfl rfl ?_
        refine OpsW.det (det_call en17 rfl (fun w hb ho => Free_d hD4 (ok_two (x := ⟨[97], a, sa⟩) (y := ⟨[98], b, 0⟩) rfl rfl hsal (Nat.zero_le _) hal hbl2 hsa hsb (by show sa + 0 ≤ _; omega) hR (by omega)) (bl_mid (Hl := [(_, _), (_, _)]) hb))) rfl ?_
        refine OpsW.guard_yes rfl rfl ?_
        refine OpsW.det (Det.to (det_leq rfl rfl) (congrArg Value.bool (decide_eq_false (by show ¬ ((b.length : Nat) : Int) ≤ (((fresh k).room - total [(⟨[97], a, sa⟩ : Fl), ⟨[98], b, 0⟩] : Nat) : Int); simp only [total, List.map_cons, List.map_nil, List.sum_cons, List.sum_nil]; omega)))) rfl ?_
        refine OpsW.det (det_pick rfl rfl) rfl ?_
        refine sNext ?_
        refine W.keep (F' := [(71, _), (7, _), (2, _)]) ⟨rfl, rfl, rfl, trivial⟩ ?_
        refine W.cond_false rfl ?_
        refine sSkip ?_
        refine sSeq ?_
        refine sSeq ?_
        refine W.region ?_
        refine OpsW.det (det_move rfl) rfl ?_
        refine OpsW.changeM (Hl := [(_, _), (_, _)]) (Hd := H57) (Hr := (Xj ++ (Xi ++ []))) en20 rfl (fun w hb hbn ho hbm => Drop_ok hD4 (ok_two (x := ⟨[97], a, sa⟩) (y := ⟨[98], b, 0⟩) rfl rfl hsal (Nat.zero_le _) hal hbl2 hsa hsb (by show sa + 0 ≤ _; omega) hR (by omega)) (by show st < 4611686018427387904; omega) (by decide) nob (bl_mid (Hl := [(_, _), (_, _)]) hb) (nd_mid (Hl := [(_, _), (_, _)]) hbn)) rfl (fun v73 H73 hS73 => ?_)
        obtain ⟨hv73, hD5⟩ := hS73
        rw [df5] at hv73 hD5
        subst hv73
        refine OpsW.norm (H' := ((_, _) :: (_, _) :: (H73 ++ (Xj ++ (Xi ++ []))))) rfl rfl ?_
        refine OpsW.det (Det.to (det_neq rfl rfl) (congrArg Value.bool (rfl))) rfl ?_
        refine OpsW.det (det_move rfl) rfl ?_
        refine OpsW.guard_yes rfl rfl ?_
        refine OpsW.det (det_move rfl) rfl ?_
        refine OpsW.guard_yes rfl rfl ?_
        refine OpsW.det (det_move rfl) rfl ?_
        refine OpsW.guard_yes rfl rfl ?_
        refine OpsW.det (det_len u22 rfl) rfl ?_
        refine OpsW.guard_yes rfl rfl ?_
        refine OpsW.det (det_move rfl) rfl ?_
        refine OpsW.guard_yes rfl rfl ?_
        refine OpsW.det (det_call en17 rfl (fun w hb ho => Free_d hD5 (ok_one (Nat.zero_le _) hbl2 hsb (Nat.zero_le _) hR (by omega)) (bl_mid (Hl := [(_, _), (_, _)]) hb))) rfl ?_
        refine OpsW.guard_yes rfl rfl ?_
        refine OpsW.det (Det.to (v := .int .i64 ((min b.length (fresh k).room : Nat) : Int)) (det_min rfl rfl) (congrArg (Value.int .i64) (by show min ((b.length : Nat) : Int) (((fresh k).room - total [(⟨[98], b, 0⟩ : Fl)] : Nat) : Int) = _; rw [total_one]; omega))) rfl ?_
        refine OpsW.guard_yes rfl rfl ?_
        refine OpsW.changeM (Hl := [(_, _), (_, _)]) (Hd := H73) (Hr := (Xj ++ (Xi ++ []))) en21 rfl (fun w hb hbn ho hbm => Cut_ok hD5 (ok_one (Nat.zero_le _) hbl2 hsb (Nat.zero_le _) hR (by omega)) (by show st + 1 < 4611686018427387904; omega) (by decide) nob (bl_mid (Hl := [(_, _), (_, _)]) hb) (nd_mid (Hl := [(_, _), (_, _)]) hbn)) rfl (fun v82 H82 hS82 => ?_)
        obtain ⟨hv82, hD6⟩ := hS82
        rw [df6 (by omega)] at hv82 hD6
        subst hv82
        refine OpsW.norm (H' := ((_, _) :: (_, _) :: (H82 ++ (Xj ++ (Xi ++ []))))) rfl rfl ?_
        refine OpsW.guard_yes rfl rfl ?_
        refine OpsW.det (Det.to (det_neq rfl rfl) (congrArg Value.bool (rfl))) rfl ?_
        refine OpsW.det (det_pick rfl rfl) rfl ?_
        refine sNext ?_
        refine W.keep (F' := [(84, _), (7, _)]) ⟨rfl, rfl, trivial⟩ ?_
        refine W.cond_false rfl ?_
        refine sSkip ?_
        refine W.region ?_
        refine OpsW.det (det_move rfl) rfl ?_
        refine OpsW.changeM (Hl := [(_, _), (_, _)]) (Hd := H82) (Hr := (Xj ++ (Xi ++ []))) en12 rfl (fun w hb hbn ho hbm => Sync_ok hD6 (ok_one (Nat.zero_le _) (by rw [List.length_take]; omega) (small_take hsb) (Nat.zero_le _) hR (by omega)) (by show st + 2 < 4611686018427387904; omega) (by decide) nob (bl_mid (Hl := [(_, _), (_, _)]) hb) (nd_mid (Hl := [(_, _), (_, _)]) hbn)) rfl (fun v86 H86 hS86 => ?_)
        obtain ⟨hv86, hD7⟩ := hS86
        rw [sync_one right98 (by rw [List.length_take]; omega) (by decide)] at hv86 hD7
        subst hv86
        refine OpsW.norm (H' := ((_, _) :: (_, _) :: (H86 ++ (Xj ++ (Xi ++ []))))) rfl rfl ?_
        refine OpsW.det (det_assign rfl) rfl ?_
        refine sNext ?_
        refine W.keep (F' := [(9, _), (7, _)]) ⟨rfl, rfl, trivial⟩ ?_
        refine sSeq ?_
        refine W.region ?_
        refine OpsW.det (det_move rfl) rfl ?_
        refine OpsW.det (Det.to (det_eql rfl rfl) (congrArg Value.bool (rfl))) rfl ?_
        refine OpsW.det (det_move rfl) rfl ?_
        refine OpsW.guard_yes rfl rfl ?_
        refine OpsW.det (det_move rfl) rfl ?_
        refine OpsW.guard_yes rfl rfl ?_
        refine OpsW.det (det_call en17 rfl (fun w hb ho => Free_d hD7 (ok_one (Nat.le_refl _) (by rw [List.length_take]; omega) (small_take hsb) (by rw [List.length_take]; omega) hR (by omega)) (bl_mid (Hl := [(_, _), (_, _)]) hb))) rfl ?_
        refine OpsW.guard_yes rfl rfl ?_
        refine OpsW.det (Det.to (det_geq rfl rfl) (congrArg Value.bool (decide_eq_true (by omega)))) rfl ?_
        refine OpsW.det (det_pick rfl rfl) rfl ?_
        refine OpsW.det (det_assign rfl) rfl ?_
        refine sNext ?_
        refine W.keep (F' := [(6, _)]) ⟨rfl, trivial⟩ ?_
        refine sRet ?_
        exact done1 Try.results4 (rv_tmp rfl) rfl
    · skip
      refine W.region ?_
      refine OpsW.det (det_move rfl) rfl ?_
      refine OpsW.changeM (Hl := [(_, _), (_, _)]) (Hd := H24) (Hr := []) en12 rfl (fun w hb hbn ho hbm => Sync_ok hD2 (ok_two rfl rfl (Nat.zero_le _) (Nat.zero_le _) hal hbl2 hsa hsb (by show 0 + 0 ≤ _; omega) hR (by omega)) (Nat.le_of_ble_eq_true rfl) (by decide) nob (bl_mid (Hl := [(_, _), (_, _)]) hb) (nd_mid (Hl := [(_, _), (_, _)]) hbn)) rfl (fun v38 H38 hS38 => ?_)
      obtain ⟨hv38, hD3⟩ := hS38
      rw [df3n hfa] at hv38 hD3
      subst hv38
      obtain ⟨sa, st, hD3, hsal, hsaR, hst⟩ : ∃ sa st, DiskIs bD ⟨[⟨[97], a, sa⟩, ⟨[98], b, 0⟩], (fresh k).room, st, 0, false⟩ H38 ∧ sa ≤ a.length ∧ sa ≤ (fresh k).room ∧ st ≤ 3 := ⟨0, _, hD3, by omega, by omega, by omega⟩
      refine OpsW.norm (H' := ((_, _) :: (_, _) :: (H38 ++ []))) rfl rfl ?_
      refine OpsW.det (det_assign rfl) rfl ?_
      refine sNext ?_
      refine W.keep (F' := [(9, _), (8, _), (7, _), (1, _), (2, _)]) ⟨rfl, rfl, rfl, rfl, rfl, trivial⟩ ?_
      refine sSeq ?_
      refine sSeq ?_
      refine W.region ?_
      refine OpsW.det (det_move rfl) rfl ?_
      refine OpsW.det (Det.to (det_eql rfl rfl) (congrArg Value.bool (rfl))) rfl ?_
      refine OpsW.det (det_move rfl) rfl ?_
      refine OpsW.det (det_len u22 rfl) rfl ?_
      refine OpsW.det (det_move rfl) rfl ?_
      refine OpsW.det (Det.to (det_leq rfl rfl) (congrArg Value.bool (decide_eq_false (by show ¬ ((a.length : Nat) : Int) ≤ (((fresh k).room - 0 : Nat) : Int); omega)))) rfl ?_
      refine OpsW.det (Det.to (det_neqb u4 rfl rfl) (congrArg Value.bool (rfl))) rfl ?_
      refine OpsW.det (det_move rfl) rfl ?_
      refine OpsW.guard_yes rfl rfl ?_
      refine OpsW.det (det_move rfl) rfl ?_
      refine OpsW.guard_yes rfl rfl ?_
      refine OpsW.det (Det.to (det_neq rfl rfl) (congrArg Value.bool (rfl))) rfl ?_
      refine OpsW.guard_yes rfl rfl ?_
      refine OpsW.det (det_move rfl) rfl ?_
      refine OpsW.guard_yes rfl rfl ?_
      refine OpsW.det (det_move rfl) rfl ?_
      refine OpsW.guard_yes rfl rfl ?_
      refine OpsW.det (Det.to (det_neq rfl rfl) (congrArg Value.bool (rfl))) rfl ?_
      refine OpsW.guard_yes rfl rfl ?_
      refine OpsW.det (det_pick rfl rfl) rfl ?_
      refine OpsW.det (det_pick rfl rfl) rfl ?_
      refine sNext ?_
      refine W.keep (F' := [(53, _), (7, _), (2, _)]) ⟨rfl, rfl, rfl, trivial⟩ ?_
      refine W.cond_false rfl ?_
      refine sSkip ?_
      refine sSeq ?_
      refine W.region ?_
      refine OpsW.det (det_move rfl) rfl ?_
      refine OpsW.change (Hf := []) en18 rfl (fun w hb hbn ho hbm => Image_d hD3 (ok_two (x := ⟨[97], a, sa⟩) (y := ⟨[98], b, 0⟩) rfl rfl hsal (Nat.zero_le _) hal hbl2 hsa hsb (by show sa + 0 ≤ _; omega) hR (by omega)) (bl_mid (Hl := [(_, _), (_, _)]) hb)) rfl (fun v55 H55 hS55 => ?_)
      obtain ⟨Xi, hfii, hxsi⟩ : ∃ X, FilesIs v55 (image _) X ∧ X.Sublist H55 := ⟨_, hS55, List.Sublist.refl _⟩
      have hfai := FilesIs.ok (ok_two (x := ⟨[97], a, sa⟩) (y := ⟨[98], b, 0⟩) rfl rfl hsal (Nat.zero_le _) hal hbl2 hsa hsb (by show sa + 0 ≤ _; omega) hR (by omega)) hfii
      refine OpsW.tuck (Hl := [(_, _), (_, _)]) (Hd := H38) (Hr := []) (hp := Xi) hxsi ?_
      refine OpsW.norm (H' := ((_, _) :: (_, _) :: (H38 ++ (Xi ++ [])))) rfl rfl ?_
      refine OpsW.det (det_assign rfl) rfl ?_
      refine sNext ?_
      refine W.keep (F' := [(10, _), (7, _), (2, _)]) ⟨rfl, rfl, rfl, trivial⟩ ?_
      refine sSeq ?_
      rcases (show sa + b.length ≤ (fresh k).room ∨ ¬ sa + b.length ≤ (fresh k).room by omega) with hfb | hfb
      · skip
        refine W.region ?_
        refine OpsW.det (det_move rfl) rfl ?_
        refine OpsW.changeM (Hl := [(_, _), (_, _)]) (Hd := H38) (Hr := (Xi ++ [])) en12 rfl (fun w hb hbn ho hbm => Sync_ok hD3 (ok_two (x := ⟨[97], a, sa⟩) (y := ⟨[98], b, 0⟩) rfl rfl hsal (Nat.zero_le _) hal hbl2 hsa hsb (by show sa + 0 ≤ _; omega) hR (by omega)) (by show st < 4611686018427387904; omega) (by decide) nob (bl_mid (Hl := [(_, _), (_, _)]) hb) (nd_mid (Hl := [(_, _), (_, _)]) hbn)) rfl (fun v57 H57 hS57 => ?_)
        obtain ⟨hv57, hD4⟩ := hS57
        rw [df4 hfb] at hv57 hD4
        subst hv57
        refine OpsW.norm (H' := ((_, _) :: (_, _) :: (H57 ++ (Xi ++ [])))) rfl rfl ?_
        refine OpsW.det (det_assign rfl) rfl ?_
        refine sNext ?_
        refine W.keep (F' := [(9, _), (10, _), (7, _), (2, _)]) ⟨rfl, rfl, rfl, rfl, trivial⟩ ?_
        refine sSeq ?_
        refine sSeq ?_
        refine W.region ?_
        refine OpsW.det (det_move rfl) rfl ?_
        refine OpsW.det (Det.to (det_eql rfl rfl) (congrArg Value.bool (rfl))) rfl ?_
        refine sNext ?_
        refine W.keep (F' := [(59, _), (9, _), (10, _), (7, _), (2, _)]) ⟨rfl, rfl, rfl, rfl, rfl, trivial⟩ ?_
        refine W.cond_false rfl ?_
        refine sSkip ?_
        refine sSeq ?_
        refine W.region ?_
        refine OpsW.det (det_move rfl) rfl ?_
        refine OpsW.det (Det.to (det_eql rfl rfl) (congrArg Value.bool (rfl))) rfl ?_
        refine OpsW.det (det_move rfl) rfl ?_
        refine OpsW.guard_yes rfl rfl ?_
        refine OpsW.det (det_move rfl) rfl ?_
        refine OpsW.guard_yes rfl rfl ?_
        refine OpsW.det (det_call en17 rfl (fun w hb ho => Free_d hD4 (ok_two (x := ⟨[97], a, sa⟩) (y := ⟨[98], b, b.length⟩) rfl rfl hsal (Nat.le_refl _) hal hbl2 hsa hsb hfb hR (by omega)) (bl_mid (Hl := [(_, _), (_, _)]) hb))) rfl ?_
        refine OpsW.guard_yes rfl rfl ?_
        refine OpsW.det (Det.to (det_geq rfl rfl) (congrArg Value.bool (decide_eq_true (by omega)))) rfl ?_
        refine OpsW.det (det_pick rfl rfl) rfl ?_
        refine OpsW.det (det_assign rfl) rfl ?_
        refine sNext ?_
        refine W.keep (F' := [(6, _)]) ⟨rfl, trivial⟩ ?_
        refine sRet ?_
        exact done1 Try.results4 (rv_tmp rfl) rfl
      · skip
        refine W.region ?_
        refine OpsW.det (det_move rfl) rfl ?_
        refine OpsW.changeM (Hl := [(_, _), (_, _)]) (Hd := H38) (Hr := (Xi ++ [])) en12 rfl (fun w hb hbn ho hbm => Sync_ok hD3 (ok_two (x := ⟨[97], a, sa⟩) (y := ⟨[98], b, 0⟩) rfl rfl hsal (Nat.zero_le _) hal hbl2 hsa hsb (by show sa + 0 ≤ _; omega) hR (by omega)) (by show st < 4611686018427387904; omega) (by decide) nob (bl_mid (Hl := [(_, _), (_, _)]) hb) (nd_mid (Hl := [(_, _), (_, _)]) hbn)) rfl (fun v57 H57 hS57 => ?_)
        obtain ⟨hv57, hD4⟩ := hS57
        rw [df4n hfb] at hv57 hD4
        subst hv57
        refine OpsW.norm (H' := ((_, _) :: (_, _) :: (H57 ++ (Xi ++ [])))) rfl rfl ?_
        refine OpsW.det (det_assign rfl) rfl ?_
        refine sNext ?_
        refine W.keep (F' := [(9, _), (10, _), (7, _), (2, _)]) ⟨rfl, rfl, rfl, rfl, trivial⟩ ?_
        refine sSeq ?_
        refine sSeq ?_
        refine W.region ?_
        refine OpsW.det (det_move rfl) rfl ?_
        refine OpsW.det (Det.to (det_eql rfl rfl) (congrArg Value.bool (rfl))) rfl ?_
        refine sNext ?_
        refine W.keep (F' := [(59, _), (9, _), (10, _), (7, _), (2, _)]) ⟨rfl, rfl, rfl, rfl, rfl, trivial⟩ ?_
        refine W.cond_true rfl ?_
        refine sSeq ?_
        refine sSeq ?_
        refine W.region ?_
        refine OpsW.det (det_move rfl) rfl ?_
        refine OpsW.change (Hf := []) en18 rfl (fun w hb hbn ho hbm => Image_d hD4 (ok_two (x := ⟨[97], a, sa⟩) (y := ⟨[98], b, 0⟩) rfl rfl hsal (Nat.zero_le _) hal hbl2 hsa hsb (by show sa + 0 ≤ _; omega) hR (by omega)) (bl_mid (Hl := [(_, _), (_, _)]) hb)) rfl (fun v61 H61 hS61 => ?_)
        obtain ⟨Xj, hfij, hxsj⟩ : ∃ X, FilesIs v61 (image _) X ∧ X.Sublist H61 := ⟨_, hS61, List.Sublist.refl _⟩
        have hfaj := FilesIs.ok (ok_two (x := ⟨[97], a, sa⟩) (y := ⟨[98], b, 0⟩) rfl rfl hsal (Nat.zero_le _) hal hbl2 hsa hsb (by show sa + 0 ≤ _; omega) hR (by omega)) hfij
        refine OpsW.tuck (Hl := [(_, _), (_, _)]) (Hd := H57) (Hr := (Xi ++ [])) (hp := Xj) hxsj ?_
        refine OpsW.norm (H' := ((_, _) :: (_, _) :: (H57 ++ (Xj ++ (Xi ++ []))))) rfl rfl ?_
        refine OpsW.det (det_move rfl) rfl ?_
        refine OpsW.det (Det.to (det_call en19 rfl (fun w hb ho => same17_ok (hfaj.mono (fun p hp => List.mem_append_right [(_, _), (_, _)] (List.mem_append_right _ (List.mem_append_left _ hp)))) (hfai.mono (fun p hp => List.mem_append_right [(_, _), (_, _)] (List.mem_append_right _ (List.mem_append_right _ (List.mem_append_left _ hp))))) (by rw [List.length_map, image_len]; show 2 ≤ _; decide) (image_small (ok_two (x := ⟨[97], a, sa⟩) (y := ⟨[98], b, 0⟩) rfl rfl hsal (Nat.zero_le _) hal hbl2 hsa hsb (by show sa + 0 ≤ _; omega) hR (by omega))) hb)) (congrArg Value.bool (decide_eq_true rfl))) rfl ?_
        refine OpsW.det (det_not rfl) rfl ?_
        refine OpsW.det (det_move rfl) rfl ?_
        refine OpsW.guard_yes rfl rfl ?_
        refine OpsW.det (det_move rfl) rfl ?_
        refine OpsW.guard_yes rfl rfl ?_
        refine OpsW.det (det_len u22 rfl) rfl ?_
        refine OpsW.guard_yes rfl rfl ?_
        refine OpsW.det (det_move rfl) rfl ?_
        refine OpsW.guard_yes rfl rfl ?_
        refine OpsW.det (det_call en17 rfl (fun w hb ho => Free_d hD4 (ok_two (x := ⟨[97], a, sa⟩) (y := ⟨[98], b, 0⟩) rfl rfl hsal (Nat.zero_le _) hal hbl2 hsa hsb (by show sa + 0 ≤ _; omega) hR (by omega)) (bl_mid (Hl := [(_, _), (_, _)]) hb))) rfl ?_
        refine OpsW.guard_yes rfl rfl ?_
        refine OpsW.det (Det.to (det_leq rfl rfl) (congrArg Value.bool (decide_eq_false (by show ¬ ((b.length : Nat) : Int) ≤ (((fresh k).room - total [(⟨[97], a, sa⟩ : Fl), ⟨[98], b, 0⟩] : Nat) : Int); simp only [total, List.map_cons, List.map_nil, List.sum_cons, List.sum_nil]; omega)))) rfl ?_
        refine OpsW.det (det_pick rfl rfl) rfl ?_
        refine sNext ?_
        refine W.keep (F' := [(71, _), (7, _), (2, _)]) ⟨rfl, rfl, rfl, trivial⟩ ?_
        refine W.cond_false rfl ?_
        refine sSkip ?_
        refine sSeq ?_
        refine sSeq ?_
        refine W.region ?_
        refine OpsW.det (det_move rfl) rfl ?_
        refine OpsW.changeM (Hl := [(_, _), (_, _)]) (Hd := H57) (Hr := (Xj ++ (Xi ++ []))) en20 rfl (fun w hb hbn ho hbm => Drop_ok hD4 (ok_two (x := ⟨[97], a, sa⟩) (y := ⟨[98], b, 0⟩) rfl rfl hsal (Nat.zero_le _) hal hbl2 hsa hsb (by show sa + 0 ≤ _; omega) hR (by omega)) (by show st < 4611686018427387904; omega) (by decide) nob (bl_mid (Hl := [(_, _), (_, _)]) hb) (nd_mid (Hl := [(_, _), (_, _)]) hbn)) rfl (fun v73 H73 hS73 => ?_)
        obtain ⟨hv73, hD5⟩ := hS73
        rw [df5] at hv73 hD5
        subst hv73
        refine OpsW.norm (H' := ((_, _) :: (_, _) :: (H73 ++ (Xj ++ (Xi ++ []))))) rfl rfl ?_
        refine OpsW.det (Det.to (det_neq rfl rfl) (congrArg Value.bool (rfl))) rfl ?_
        refine OpsW.det (det_move rfl) rfl ?_
        refine OpsW.guard_yes rfl rfl ?_
        refine OpsW.det (det_move rfl) rfl ?_
        refine OpsW.guard_yes rfl rfl ?_
        refine OpsW.det (det_move rfl) rfl ?_
        refine OpsW.guard_yes rfl rfl ?_
        refine OpsW.det (det_len u22 rfl) rfl ?_
        refine OpsW.guard_yes rfl rfl ?_
        refine OpsW.det (det_move rfl) rfl ?_
        refine OpsW.guard_yes rfl rfl ?_
        refine OpsW.det (det_call en17 rfl (fun w hb ho => Free_d hD5 (ok_one (Nat.zero_le _) hbl2 hsb (Nat.zero_le _) hR (by omega)) (bl_mid (Hl := [(_, _), (_, _)]) hb))) rfl ?_
        refine OpsW.guard_yes rfl rfl ?_
        refine OpsW.det (Det.to (v := .int .i64 ((min b.length (fresh k).room : Nat) : Int)) (det_min rfl rfl) (congrArg (Value.int .i64) (by show min ((b.length : Nat) : Int) (((fresh k).room - total [(⟨[98], b, 0⟩ : Fl)] : Nat) : Int) = _; rw [total_one]; omega))) rfl ?_
        refine OpsW.guard_yes rfl rfl ?_
        refine OpsW.changeM (Hl := [(_, _), (_, _)]) (Hd := H73) (Hr := (Xj ++ (Xi ++ []))) en21 rfl (fun w hb hbn ho hbm => Cut_ok hD5 (ok_one (Nat.zero_le _) hbl2 hsb (Nat.zero_le _) hR (by omega)) (by show st + 1 < 4611686018427387904; omega) (by decide) nob (bl_mid (Hl := [(_, _), (_, _)]) hb) (nd_mid (Hl := [(_, _), (_, _)]) hbn)) rfl (fun v82 H82 hS82 => ?_)
        obtain ⟨hv82, hD6⟩ := hS82
        rw [df6 (by omega)] at hv82 hD6
        subst hv82
        refine OpsW.norm (H' := ((_, _) :: (_, _) :: (H82 ++ (Xj ++ (Xi ++ []))))) rfl rfl ?_
        refine OpsW.guard_yes rfl rfl ?_
        refine OpsW.det (Det.to (det_neq rfl rfl) (congrArg Value.bool (rfl))) rfl ?_
        refine OpsW.det (det_pick rfl rfl) rfl ?_
        refine sNext ?_
        refine W.keep (F' := [(84, _), (7, _)]) ⟨rfl, rfl, trivial⟩ ?_
        refine W.cond_false rfl ?_
        refine sSkip ?_
        refine W.region ?_
        refine OpsW.det (det_move rfl) rfl ?_
        refine OpsW.changeM (Hl := [(_, _), (_, _)]) (Hd := H82) (Hr := (Xj ++ (Xi ++ []))) en12 rfl (fun w hb hbn ho hbm => Sync_ok hD6 (ok_one (Nat.zero_le _) (by rw [List.length_take]; omega) (small_take hsb) (Nat.zero_le _) hR (by omega)) (by show st + 2 < 4611686018427387904; omega) (by decide) nob (bl_mid (Hl := [(_, _), (_, _)]) hb) (nd_mid (Hl := [(_, _), (_, _)]) hbn)) rfl (fun v86 H86 hS86 => ?_)
        obtain ⟨hv86, hD7⟩ := hS86
        rw [sync_one right98 (by rw [List.length_take]; omega) (by decide)] at hv86 hD7
        subst hv86
        refine OpsW.norm (H' := ((_, _) :: (_, _) :: (H86 ++ (Xj ++ (Xi ++ []))))) rfl rfl ?_
        refine OpsW.det (det_assign rfl) rfl ?_
        refine sNext ?_
        refine W.keep (F' := [(9, _), (7, _)]) ⟨rfl, rfl, trivial⟩ ?_
        refine sSeq ?_
        refine W.region ?_
        refine OpsW.det (det_move rfl) rfl ?_
        refine OpsW.det (Det.to (det_eql rfl rfl) (congrArg Value.bool (rfl))) rfl ?_
        refine OpsW.det (det_move rfl) rfl ?_
        refine OpsW.guard_yes rfl rfl ?_
        refine OpsW.det (det_move rfl) rfl ?_
        refine OpsW.guard_yes rfl rfl ?_
        refine OpsW.det (det_call en17 rfl (fun w hb ho => Free_d hD7 (ok_one (Nat.le_refl _) (by rw [List.length_take]; omega) (small_take hsb) (by rw [List.length_take]; omega) hR (by omega)) (bl_mid (Hl := [(_, _), (_, _)]) hb))) rfl ?_
        refine OpsW.guard_yes rfl rfl ?_
        refine OpsW.det (Det.to (det_geq rfl rfl) (congrArg Value.bool (decide_eq_true (by omega)))) rfl ?_
        refine OpsW.det (det_pick rfl rfl) rfl ?_
        refine OpsW.det (det_assign rfl) rfl ?_
        refine sNext ?_
        refine W.keep (F' := [(6, _)]) ⟨rfl, trivial⟩ ?_
        refine sRet ?_
        exact done1 Try.results4 (rv_tmp rfl) rfl

end Go.Dk
