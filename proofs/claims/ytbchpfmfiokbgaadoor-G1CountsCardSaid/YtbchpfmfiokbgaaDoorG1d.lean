/-
  The first group: products with scalars, sums of lists: the walks. Conditions: as many as memory has.
-/
import Derived.Test.YtbchpfmfiokbgaaDoorG1c
namespace Go.Cu
open Go Go.Vm Go.RowKit Go.Proofs 
attribute [local irreducible] W OpsW Det Fresh New Writes Vm.Pure Makes Changes ExternTo BuildTo ZeroTo FieldTo IndexTo BinTo SliceTo Vm.Enters
set_option linter.unusedVariables false
set_option linter.unusedSimpArgs false
variable {T : Nat → TypeId × Nat × Nat}

def blist (x : Fs) : List Nat := (List.range 32).map fun i => byt x.val (31 - i)
theorem rbytes_eq (x : Fs) : rbytes x = bcells (blist x) := by unfold rbytes bcells blist; rw [bytes_all, List.map_map]; rfl
theorem blist_small (x : Fs) : ∀ c ∈ blist x, c < 256 := by
  intro c hc
  unfold blist at hc
  obtain ⟨i, _, rfl⟩ := List.mem_map.1 hc
  exact Nat.mod_lt _ (by decide)
theorem blist_len (x : Fs) : (blist x).length = 32 := by simp [blist]
theorem rbytes_one (x : Fs) : (rbytes x).all (·.oneCell') = true := bytes_one _ _ _
theorem blist_Bs (x : Fs) (b : Nat) : Bs [(b, blk (rbytes x) 52)] (.slice (some ⟨b, 0, none⟩) 32 32) (blist x) := by
  have h := Bs.of (b := b) (cap := 32) (spare := []) (e := 52) (fr := (0, 0)) (blist_small x) (by rw [blist_len]; exact Nat.le_refl _)
  rw [blist_len, List.append_nil, ← rbytes_eq] at h
  exact h
/-- So many times. -/
def pmul (p : Pt) (x : Fs) : Pt := times (blist x) p
theorem splice_52 (x : Fs) : splice 0 (rbytes x) (bst 0 0) = some (rbytes x) := splice_all (by rw [bst_len (Nat.zero_le _), rbytes_len])
/-- v is a slice of the points l, which lie in a block of G'. -/
structure Pts (G' : Hp) (v : Value) (l : List Pt) : Prop where
  shape : ∃ ad cap, v = .slice ad l.length cap
  at_ : ∀ i (h : i < l.length), ∃ (b o cap : Nat) (cs : List Value) (e : TypeId) (fr : Nat × Nat), v = .slice (some ⟨b, o, none⟩) l.length cap ∧ (b, Obj.cells cs.toArray e fr) ∈ G' ∧ cut (o + i * 12) 12 cs = some (cellsP l[i])
def jsum (l : List Pt) : Jac := l.foldl (fun j p => jadd j p) (0, 0, 0)
def psum (l : List Pt) : Pt := point (jsum l)
theorem jsum_step {l : List Pt} {i : Nat} (h : i < l.length) : jsum (l.take (i + 1)) = jadd (jsum (l.take i)) l[i] := by
  unfold jsum
  rw [List.take_succ_eq_append_getElem h, List.foldl_append]
  rfl
theorem off_i {o i : Nat} : o + ((i : Nat) : Int).toNat * 12 = o + i * 12 := by simp

theorem en25 : Vm.Enters Tryd.prog 25 := Vm.Enters.of fun _ _ => by kernel_rfl
theorem en32 : Vm.Enters Tryd.prog 32 := Vm.Enters.of fun _ _ => by kernel_rfl
theorem u45 : Tryd.prog.underlying 45 = some (.slice 30) := by kernel_rfl
theorem PMul_ok {p : Pt} {x : Fs} {w : World} (hG : Blocks (GH T) w)  : Vm.Pure Tryd.prog 18 #[encP p, encR x] w (encP (pmul p x)) := by
  refine pure_of_W (n := 11) (args := [encP p, encR x]) Tryd.func18 rfl Tryd.ntmps18 (Nat.le_of_ble_eq_true rfl) hG ?_
  refine sStart ?_
  refine sSeq ?_
  refine W.region ?_
  refine OpsW.fresh (fr_box rfl rfl) rfl fun b2 => ?_
  refine OpsW.fresh (fr_box rfl rfl) rfl fun b3 => ?_
  refine OpsW.fresh (fr_alloc z30) rfl fun b4 => ?_
  refine sNext ?_
  refine W.keep (F' := [(4, _), (3, _), (2, _)]) ⟨rfl, rfl, rfl, trivial⟩ ?_
  refine sSeq ?_
  refine W.region ?_
  refine OpsW.det (det_loadA ty35 rfl (List.Mem.tail _ (List.Mem.head _)) rfl) rfl ?_
  refine OpsW.det (det_call en32 rfl (fun w hb ho => RBytes_ok ho.blocks)) rfl ?_
  refine OpsW.fresh (fr_alloc z52) rfl fun b5 => ?_
  refine OpsW.store sz52 rfl rfl rfl (rbytes_len x) (rbytes_one x) (Upd.here) (splice_52 x) ?_
  refine sNext ?_
  refine W.keep (F' := [(5, _), (4, _), (2, _)]) ⟨rfl, rfl, rfl, trivial⟩ ?_
  refine sSeq ?_
  refine W.draw mixed 3 [[], [], [0, 1], [0, 1, 2]] (cl_lt (by decide)) ?_
  refine Head.det rfl (fun β hβ => Det.norm (F' := [(5, _), (4, _), (2, _)]) (H' := [(_, _), (_, _), (_, _), (_, _)]) rfl rfl (det_loadA ty30 rfl (List.Mem.tail _ (List.Mem.tail _ (List.Mem.tail _ (List.Mem.head _)))) rfl)) ?_
  refine Head.norm (k' := 1) (es' := [.det 8 _]) rfl rfl ?_
  refine Head.det rfl (fun β hβ => Det.norm (F' := [(5, _), (4, _), (2, _)]) (H' := [(_, _), (_, _), (_, _), (_, _)]) rfl rfl ((det_sliceArr (lo := none) (hi := none) (l := 0) (h := 32) u52 sz5 rfl rfl rfl (by decide) (by decide)).to (v := .slice (some ⟨b5, 0, none⟩) 32 32) rfl)) ?_
  refine Head.norm (k' := 2) (es' := [.det 8 _, .det 9 _]) rfl rfl ?_
  refine Head.det rfl (fun β hβ => Det.norm (F' := [(8, _), (9, _), (5, _), (4, _), (2, _)]) (H' := [(_, _), (_, _), (_, _), (_, _)]) rfl rfl (det_call en25 rfl (fun w hb ho => Times_ok (G' := [(b5, blk (rbytes x) 52)]) (p := p) (blist_Bs x b5) (by rw [blist_len]; decide) (blocks_cons (hb _ (List.Mem.head _)) ho.blocks)))) ?_
  refine Head.norm (k' := 3) (es' := [.det 8 _, .det 9 _, .det 10 _]) rfl rfl ?_
  refine Head.done ⟨by kernel_rfl, fun β hβ => ?_⟩
  refine OpsW.norm (F' := [(8, _), (9, _), (10, _), (5, _), (4, _), (2, _)]) (H' := [(_, _), (_, _), (_, _), (_, _)]) rfl rfl ?_
  refine OpsW.store sz30 rfl rfl rfl rfl rfl (Upd.there (Upd.here)) rfl ?_
  refine sNext ?_
  refine W.keep (F' := [(4, _)]) ⟨rfl, trivial⟩ ?_
  refine sRet ?_
  exact done1 Tryd.results18 (rv_cellA ty30 rfl (List.Mem.tail _ (List.Mem.head _)) rfl) rfl
theorem PSum_ok {G' : Hp} {v : Value} {l : List Pt} (hB : Pts G' v l) (hl : l.length ≤ 1000000000000) {w : World} (hG : Blocks (G' ++ GH T) w)  : Vm.Pure Tryd.prog 21 #[v] w (encP (psum l)) := by
  obtain ⟨ad, cap, hvv⟩ := hB.shape
  refine pure_of_W (n := 18) (args := [v]) Tryd.func21 rfl Tryd.ntmps21 (Nat.le_of_ble_eq_true rfl) hG ?_
  refine sStart ?_
  refine sSeq ?_
  subst hvv
  refine W.region ?_
  refine OpsW.fresh (fr_alloc z30) rfl fun b2 => ?_
  refine sNext ?_
  refine sSeq ?_
  refine W.region ?_
  refine OpsW.fresh (fr_alloc z74r) rfl fun b3 => ?_
  refine sNext ?_
  refine sSeq ?_
  refine sSeq ?_
  refine W.region ?_
  refine OpsW.det (det_move rfl) rfl ?_
  refine OpsW.det (det_len u45 rfl) rfl ?_
  refine OpsW.det (det_move rfl) rfl ?_
  refine sNext ?_
  refine W.keep (F' := [(8, _), (7, _), (6, _), (3, _), (2, _)]) ⟨rfl, rfl, rfl, rfl, rfl, trivial⟩ ?_
  refine sBlock ?_
  refine sLoop (σ := Nat) (fun i => [(8, .int .i64 (i : Nat)), (7, .int .i64 (l.length : Nat)), (6, .slice ad l.length cap), (3, .pointer (some ⟨b3, 0, none⟩)), (2, .pointer (some ⟨b2, 0, none⟩))]) (fun i => [(b3, blk (cellsJ (jsum (l.take i))) 74), (b2, blk (cellsP (0, 0)) 30)]) (fun i => i ≤ l.length) (fun i => l.length - i) 0 (Nat.zero_le _) ⟨rfl, rfl, rfl, rfl, rfl, trivial⟩ (List.Sublist.refl _) ?_
  intro i hi
  refine sSeq ?_
  refine W.region ?_
  refine OpsW.det (det_lss rfl rfl) rfl ?_
  refine sNext ?_
  refine sSeq ?_
  refine W.cond rfl (fun hc9 => ?_) (fun hc9 => ?_)
  · skip
    have hlt : i < l.length := by have h := hc9; simp only [decide_eq_true_eq] at h; omega
    obtain ⟨bk, o, cap', cs, e, fr, hv, hm, hcell⟩ := hB.at_ i hlt
    simp only [Value.slice.injEq] at hv
    obtain ⟨rfl, _, rfl⟩ := hv
    refine sSkip ?_
    refine sSeq ?_
    refine sBlock ?_
    refine sSeq ?_
    refine W.region ?_
    refine OpsW.det (det_indexAddr_sl u45 sz30 rfl rfl ⟨by omega, by omega⟩) rfl ?_
    refine OpsW.det (det_loadA_ro ty30 rfl (List.mem_append_left _ hm) (show cut (o + ((i : Nat) : Int).toNat * 12) 12 cs = some (cellsP l[i]) by rw [off_i]; exact hcell)) rfl ?_
    refine OpsW.fresh (fr_alloc z30) rfl fun b5 => ?_
    refine OpsW.store sz30 rfl rfl rfl rfl rfl (Upd.here) rfl ?_
    refine sNext ?_
    refine W.keep (F' := [(5, _), (8, _), (7, _), (6, _), (3, _), (2, _)]) ⟨rfl, rfl, rfl, rfl, rfl, rfl, trivial⟩ ?_
    refine W.region ?_
    refine OpsW.det (det_loadA ty74 rfl (List.Mem.tail _ (List.Mem.head _)) rfl) rfl ?_
    refine OpsW.det (det_loadA ty30 rfl (List.Mem.head _) rfl) rfl ?_
    refine OpsW.det (det_call en53 rfl (fun w hb ho => jadd_ok (fun p hp => ho.look (List.mem_append_right _ hp)))) rfl ?_
    refine OpsW.store sz74 rfl rfl rfl rfl rfl (Upd.there (Upd.here)) rfl ?_
    refine sLast ?_
    refine bNext ?_
    refine W.keep (F' := [(8, _), (7, _), (6, _), (3, _), (2, _)]) ⟨rfl, rfl, rfl, rfl, rfl, trivial⟩ ?_
    refine W.region ?_
    refine OpsW.det (det_addN (b := 1) rfl rfl (by omega)) rfl ?_
    refine OpsW.det (det_move rfl) rfl ?_
    refine sLast ?_
    exact rEnd (i + 1) hlt ⟨rfl, rfl, rfl, rfl, rfl, trivial⟩ (by rw [jsum_step hlt]; exact List.Sublist.cons _ (List.Sublist.refl _)) (step_lt hlt)
  · skip
    have hi4 : i = l.length := by have h := hc9; simp only [decide_eq_false_iff_not] at h; omega
    subst hi4
    refine sExit ?_
    refine xLoop ?_
    refine xHere ?_
    refine W.keep (F' := [(3, _), (2, _)]) ⟨rfl, rfl, trivial⟩ ?_
    refine sSeq ?_
    refine W.region ?_
    refine OpsW.det (det_loadA ty74 rfl (List.Mem.head _) rfl) rfl ?_
    refine OpsW.det (det_call en54 rfl (fun w hb ho => point_ok (fun p hp => ho.look (List.mem_append_right _ hp)))) rfl ?_
    refine OpsW.store sz30 rfl rfl rfl rfl rfl (Upd.there (Upd.here)) rfl ?_
    refine sNext ?_
    refine W.keep (F' := [(2, _)]) ⟨rfl, trivial⟩ ?_
    refine sRet ?_
    exact done1 Tryd.results21 (rv_cellA ty30 rfl (List.Mem.tail _ (List.Mem.head _)) rfl) (congrArg (fun z => encP (psum z)) (List.take_length))

end Go.Cu
