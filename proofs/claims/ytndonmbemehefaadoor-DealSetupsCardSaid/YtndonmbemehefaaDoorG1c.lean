/-
  The first group: so many times: the walk. Conditions: as many bytes as memory has.
-/
import Derived.Test.YtndonmbemehefaaDoorG1b
namespace Go.Cu
open Go Go.Vm Go.RowKit Go.Proofs 
attribute [local irreducible] W OpsW Det Fresh New Writes Vm.Pure Makes Changes ExternTo BuildTo ZeroTo FieldTo IndexTo BinTo SliceTo Vm.Enters
set_option linter.unusedVariables false
set_option linter.unusedSimpArgs false
variable {T : Nat → TypeId × Nat × Nat}

/-- What is carried to digit i. -/
def ov (l : List Nat) : Nat → Nat
  | 0 => 0
  | i + 1 => if bitB l i + ov l i = 1 ∧ bitB l (i + 1) = 1 then 1 else (bitB l i + ov l i) / 2
/-- Digit i: 1, 0 or -1. -/
def dg (l : List Nat) (i : Nat) : Int := if bitB l i + ov l i = 1 then (if bitB l (i + 1) = 1 then -1 else 1) else 0
theorem bitB_le (l : List Nat) (i : Nat) : bitB l i ≤ 1 := by unfold bitB; split <;> omega
theorem ov_le (l : List Nat) : ∀ i, ov l i ≤ 1
  | 0 => by simp [ov]
  | i + 1 => by
    have := ov_le l i
    have := bitB_le l i
    unfold ov
    split <;> omega
def stp (p : Pt) (d : Int) (j : Jac) : Jac := if d = 1 then jadd j p else if d = -1 then jadd j (pneg p) else j
/-- The ladder, m digits down from the highest. -/
def jl (l : List Nat) (p : Pt) : Nat → Jac
  | 0 => (0, 0, 0)
  | m + 1 => stp p (dg l (8 * l.length - m)) (jdbl (jl l p m))
def times (l : List Nat) (p : Pt) : Pt := point (jl l p (8 * l.length + 1))
theorem jl_step {l : List Nat} {p : Pt} {k : Nat} (h : k + 1 ≤ 8 * l.length + 1) : jl l p (8 * l.length + 1 - k) = stp p (dg l k) (jdbl (jl l p (8 * l.length + 1 - (k + 1)))) := by
  obtain ⟨m, hm⟩ : ∃ m, 8 * l.length + 1 - (k + 1) = m := ⟨_, rfl⟩
  rw [show 8 * l.length + 1 - k = m + 1 by omega, hm, jl, show 8 * l.length - m = k by omega]
theorem jl_one {l : List Nat} {p : Pt} {k : Nat} (h : k + 1 ≤ 8 * l.length + 1) (hd : (dg l k == 1) = true) : jl l p (8 * l.length + 1 - k) = jadd (jdbl (jl l p (8 * l.length + 1 - (k + 1)))) p := by
  rw [jl_step h, stp, if_pos (by simpa using hd)]
theorem jl_neg {l : List Nat} {p : Pt} {k : Nat} (h : k + 1 ≤ 8 * l.length + 1) (h1 : (dg l k == 1) = false) (hd : (dg l k == -1) = true) : jl l p (8 * l.length + 1 - k) = jadd (jdbl (jl l p (8 * l.length + 1 - (k + 1)))) (pneg p) := by
  rw [jl_step h, stp, if_neg (by simpa using h1), if_pos (by simpa using hd)]
theorem jl_nil {l : List Nat} {p : Pt} {k : Nat} (h : k + 1 ≤ 8 * l.length + 1) (h1 : (dg l k == 1) = false) (hd : (dg l k == -1) = false) : jl l p (8 * l.length + 1 - k) = jdbl (jl l p (8 * l.length + 1 - (k + 1))) := by
  rw [jl_step h, stp, if_neg (by simpa using h1), if_neg (by simpa using hd)]
def digs (l : List Nat) (i : Nat) : List Value := (List.range i).map fun j => Value.int .i64 (dg l j)
theorem digs_succ (l : List Nat) (i : Nat) : digs l (i + 1) = digs l i ++ [.int .i64 (dg l i)] := by simp [digs, List.range_succ]
theorem digs_at {l : List Nat} {i n k : Nat} {r : List Value} (h : i < n) (hk : k = i) : (digs l n ++ r)[k]? = some (.int .i64 (dg l i)) := by
  subst hk
  rw [List.getElem?_append_left (by simp [digs]; exact h)]
  simp [digs, h]
theorem ty76 : TyS Tryd.prog 76 3 1 8 [.int .i64 0] := ⟨by kernel_rfl, by kernel_rfl, by kernel_rfl, ⟨.int .i64 0, by kernel_rfl, by kernel_rfl⟩, rfl, by decide⟩
theorem slice76 {v : Int} : SliceTo Tryd.prog 76 1 [(0, .int .i64 v)] [.int .i64 v] 3 := SliceTo.of fun _ => by kernel_rfl
theorem dig_n {l : List Nat} {i : Nat} (h : (((bitB l i + ov l i : Nat) : Int) == 1) = false) : Value.int .i64 (IntKind.i64.wrap (bitsOf .and .i64 ((bitB l i + ov l i : Nat) : Int) 1 * ((bitB l i + ov l i : Nat) : Int))) = .int .i64 (dg l i) := by
  have h1 : bitB l i + ov l i ≠ 1 := by have h := h; simp at h; omega
  have h2 := bitB_le l i
  have h3 := ov_le l i
  unfold dg
  rw [if_neg h1]
  have : bitB l i + ov l i = 0 ∨ bitB l i + ov l i = 2 := by omega
  rcases this with e | e <;> rw [e] <;> rfl
theorem dig_1 {l : List Nat} {i : Nat} (h : (((bitB l i + ov l i : Nat) : Int) == 1) = true) (hb : (((bitB l (i + 1) : Nat) : Int) == 1) = false) : Value.int .i64 (IntKind.i64.wrap (bitsOf .and .i64 ((bitB l i + ov l i : Nat) : Int) 1 * ((bitB l i + ov l i : Nat) : Int))) = .int .i64 (dg l i) := by
  have h1 : bitB l i + ov l i = 1 := by have h := h; simp at h; omega
  have h2 : bitB l (i + 1) ≠ 1 := by have h := hb; simp at h; omega
  unfold dg
  rw [if_pos h1, if_neg h2, h1]; rfl
theorem dig_m {l : List Nat} {i : Nat} (h : (((bitB l i + ov l i : Nat) : Int) == 1) = true) (hb : (((bitB l (i + 1) : Nat) : Int) == 1) = true) : Value.int .i64 (IntKind.i64.wrap (bitsOf .and .i64 (-1) 1 * (-1))) = .int .i64 (dg l i) := by
  have h1 : bitB l i + ov l i = 1 := by have h := h; simp at h; omega
  have h2 : bitB l (i + 1) = 1 := by have h := hb; simp at h; omega
  unfold dg
  rw [if_pos h1, if_pos h2]; rfl
theorem ov_n {l : List Nat} {i : Nat} (h : (((bitB l i + ov l i : Nat) : Int) == 1) = false) : (bitB l i + ov l i) / 2 = ov l (i + 1) := by
  have h1 : bitB l i + ov l i ≠ 1 := by have h := h; simp at h; omega
  rw [ov, if_neg (by omega)]
theorem ov_1 {l : List Nat} {i : Nat} (hb : (((bitB l (i + 1) : Nat) : Int) == 1) = false) : (bitB l i + ov l i) / 2 = ov l (i + 1) := by
  have h2 : bitB l (i + 1) ≠ 1 := by have h := hb; simp at h; omega
  rw [ov, if_neg (by omega)]
theorem ov_m {l : List Nat} {i : Nat} (h : (((bitB l i + ov l i : Nat) : Int) == 1) = true) (hb : (((bitB l (i + 1) : Nat) : Int) == 1) = true) : 1 = ov l (i + 1) := by
  have h1 : bitB l i + ov l i = 1 := by have h := h; simp at h; omega
  have h2 : bitB l (i + 1) = 1 := by have h := hb; simp at h; omega
  rw [ov, if_pos ⟨h1, h2⟩]
section
variable {P : Program} {K : List Nat} {G : Hp} {w0 : World} {F : Fr} {H : Hp} {ty : TypeId} {pos : String} {after : Array Edge} {x y : Operand} {xt yt : TypeId} {d : Option Tmp} {g : Option (Nat × Bool)}
theorem det_half {a : Nat} (hx : ev F x = some (.int .i64 a)) (hy : ev F y = some (.int .u64 1)) : Det P K G w0 ⟨d, .binOp .shr xt x y yt, ty, pos, after, g⟩ F H (.int .i64 ((a / 2 : Nat) : Int)) :=
  (det_shr hx hy (by decide)).to (by
    show Value.int .i64 (Int.fdiv a (2 ^ 1)) = _
    rw [Int.fdiv_eq_ediv_of_nonneg _ (by decide)]; rfl)
end
def cellsJ (j : Jac) : List Value := cellsF j.1 ++ cellsF j.2.1 ++ cellsF j.2.2
def cellsP (p : Pt) : List Value := cellsF p.1 ++ cellsF p.2
theorem z107r : TyZ Tryd.prog 107 (encJ (0, 0, 0)) (cellsJ (0, 0, 0)) := ⟨fun _ => by kernel_rfl, rfl⟩
theorem z31r : TyZ Tryd.prog 31 (encP (0, 0)) (cellsP (0, 0)) := ⟨fun _ => by kernel_rfl, rfl⟩

theorem en45 : Vm.Enters Tryd.prog 45 := Vm.Enters.of fun _ _ => by kernel_rfl
theorem en82 : Vm.Enters Tryd.prog 82 := Vm.Enters.of fun _ _ => by kernel_rfl
theorem en83 : Vm.Enters Tryd.prog 83 := Vm.Enters.of fun _ _ => by kernel_rfl
theorem en80 : Vm.Enters Tryd.prog 80 := Vm.Enters.of fun _ _ => by kernel_rfl
theorem sz3 : sizeIn Tryd.prog 3 = some 1 := by kernel_rfl
theorem ty3 : TyC Tryd.prog 3 := ⟨by kernel_rfl, by kernel_rfl⟩
theorem u76 : Tryd.prog.underlying 76 = some (.slice 3) := by kernel_rfl
set_option maxHeartbeats 1000000 in
theorem Times_ok {G' : Hp} {v : Value} {l : List Nat} {p : Pt} (hB : Bs G' v l) (hl : l.length ≤ 1000000000000) {w : World} (hG : Blocks (G' ++ GH T) w)  : Vm.Pure Tryd.prog 59 #[encP p, v] w (encP (times l p)) := by
  obtain ⟨ad, cap, hvv⟩ := hB.shape
  refine pure_of_W (n := 77) (args := [encP p, v]) Tryd.func59 rfl Tryd.ntmps59 (Nat.le_of_ble_eq_true rfl) hG ?_
  refine sStart ?_
  refine sSeq ?_
  subst hvv
  refine W.region ?_
  refine OpsW.fresh (fr_box rfl rfl) rfl fun b2 => ?_
  refine OpsW.fresh (fr_box rfl rfl) rfl fun b3 => ?_
  refine OpsW.fresh (fr_alloc z31r) rfl fun b4 => ?_
  refine sNext ?_
  refine W.keep (F' := [(4, _), (3, _), (2, _)]) ⟨rfl, rfl, rfl, trivial⟩ ?_
  refine sSeq ?_
  refine W.region ?_
  refine OpsW.det (det_loadC tyc22 rfl (List.Mem.tail _ (List.Mem.head _)) rfl) rfl ?_
  refine OpsW.det (det_len u22 rfl) rfl ?_
  refine OpsW.det ((det_mul rfl rfl).to (v := .int .i64 ((8 * l.length : Nat) : Int)) (by rw [wrap_i64 (by omega)]; congr 1)) rfl ?_
  refine OpsW.det (det_addN (b := 1) rfl rfl (by omega)) rfl ?_
  refine OpsW.fresh (fr_makeSlice (l := 0) ty76 rfl rfl (Nat.zero_le _) (by omega) (by omega)) rfl fun b17 => ?_
  refine OpsW.det (det_assign rfl) rfl ?_
  refine sNext ?_
  refine W.keep (F' := [(5, _), (4, _), (3, _), (2, _)]) ⟨rfl, rfl, rfl, rfl, trivial⟩ ?_
  refine sSeq ?_
  refine W.region ?_
  refine OpsW.det (det_func1 rfl) rfl ?_
  refine OpsW.det (det_assign rfl) rfl ?_
  refine sNext ?_
  refine W.keep (F' := [(6, _), (5, _), (4, _), (3, _), (2, _)]) ⟨rfl, rfl, rfl, rfl, rfl, trivial⟩ ?_
  refine sSeq ?_
  refine W.region ?_
  refine OpsW.det (det_assign rfl) rfl ?_
  refine sNext ?_
  refine sSeq ?_
  refine sSeq ?_
  refine W.region ?_
  refine OpsW.det (det_loadC tyc22 rfl (List.Mem.tail _ (List.Mem.tail _ (List.Mem.head _))) rfl) rfl ?_
  refine OpsW.det (det_len u22 rfl) rfl ?_
  refine OpsW.det ((det_mul rfl rfl).to (v := .int .i64 ((8 * l.length : Nat) : Int)) (by rw [wrap_i64 (by omega)]; congr 1)) rfl ?_
  refine OpsW.det (det_addN (b := 1) rfl rfl (by omega)) rfl ?_
  refine OpsW.det (det_move rfl) rfl ?_
  refine sNext ?_
  refine W.keep (F' := [(23, _), (22, _), (7, _), (6, _), (5, _), (4, _), (2, _)]) ⟨rfl, rfl, rfl, rfl, rfl, rfl, rfl, trivial⟩ ?_
  refine sBlock ?_
  refine sLoop (σ := Nat × Value × Hp) (fun s => [(23, .int .i64 (s.1 : Nat)), (22, .int .i64 ((8 * l.length + 1 : Nat) : Int)), (7, .int .i64 (ov l s.1 : Nat)), (6, .func (.func 80) #[] #[.pointer (some ⟨b3, 0, none⟩)]), (5, s.2.1), (4, .pointer (some ⟨b4, 0, none⟩)), (2, .pointer (some ⟨b2, 0, none⟩))]) (fun s => s.2.2 ++ [(b4, blk (cellsP (0, 0)) 31), (b3, blk [.slice ad l.length cap] 22), (b2, blk (cellsP p) 31)]) (fun s => s.1 ≤ 8 * l.length + 1 ∧ IsSl 3 1 s.2.1 s.1 s.2.2 (digs l s.1)) (fun s => 8 * l.length + 1 - s.1) (0, .slice (some ⟨b17, 0, none⟩) 0 (8 * l.length + 1), [(b17, blk ([] ++ zrep [.int .i64 0] (8 * l.length + 1)) 3)]) ⟨Nat.zero_le _, .at_ rfl (by simp [zrep_length]) (by show 8 * l.length + 1 ≤ 9223372036854775807; omega)⟩ ⟨rfl, rfl, rfl, rfl, rfl, rfl, rfl, trivial⟩ (List.Sublist.refl _) ?_
  rintro ⟨i, vd, hp⟩ ⟨hi, hsl⟩
  change IsSl 3 1 vd i hp (digs l i) at hsl
  change i ≤ 8 * l.length + 1 at hi
  refine W.norm (F' := [(23, .int .i64 (i : Nat)), (22, .int .i64 ((8 * l.length + 1 : Nat) : Int)), (7, .int .i64 (ov l i : Nat)), (6, .func (.func 80) #[] #[.pointer (some ⟨b3, 0, none⟩)]), (5, vd), (4, .pointer (some ⟨b4, 0, none⟩)), (2, .pointer (some ⟨b2, 0, none⟩))]) (H' := hp ++ [(b4, blk (cellsP (0, 0)) 31), (b3, blk [.slice ad l.length cap] 22), (b2, blk (cellsP p) 31)]) rfl rfl ?_
  refine sSeq ?_
  refine W.region ?_
  refine OpsW.det (det_lss rfl rfl) rfl ?_
  refine sNext ?_
  refine sSeq ?_
  refine W.cond rfl (fun hc24 => ?_) (fun hc24 => ?_)
  · skip
    have hlt : i < 8 * l.length + 1 := by have h := hc24; simp only [decide_eq_true_eq] at h; omega
    refine sSkip ?_
    refine sSeq ?_
    refine sBlock ?_
    refine sSeq ?_
    refine W.region ?_
    refine OpsW.det (det_move rfl) rfl ?_
    refine OpsW.det (det_assign rfl) rfl ?_
    refine sNext ?_
    refine W.keep (F' := [(8, _), (23, _), (22, _), (7, _), (6, _), (5, _), (4, _), (2, _)]) ⟨rfl, rfl, rfl, rfl, rfl, rfl, rfl, rfl, trivial⟩ ?_
    refine sSeq ?_
    refine W.region ?_
    refine OpsW.det (det_move rfl) rfl ?_
    refine OpsW.det (det_move rfl) rfl ?_
    refine OpsW.det (det_callv en80 (caps := [.pointer (some ⟨b3, 0, none⟩)]) rfl rfl (fun w hb ho => bit_ok (G' := G') (bv := b3) (i := i) hB hl (by omega) (blocks_cons (hb _ (List.mem_append_right _ (List.Mem.tail _ (List.Mem.head _)))) ho.blocks))) rfl ?_
    refine OpsW.det (det_move rfl) rfl ?_
    refine OpsW.det (det_addN rfl rfl (by have := bitB_le l i; have := ov_le l i; omega)) rfl ?_
    refine OpsW.det (det_assign rfl) rfl ?_
    refine sNext ?_
    refine W.keep (F' := [(9, _), (8, _), (23, _), (22, _), (6, _), (5, _), (4, _), (2, _)]) ⟨rfl, rfl, rfl, rfl, rfl, rfl, rfl, rfl, trivial⟩ ?_
    refine sSeq ?_
    refine W.region ?_
    refine OpsW.det (det_move rfl) rfl ?_
    refine OpsW.det (det_half rfl rfl) rfl ?_
    refine OpsW.det (det_assign rfl) rfl ?_
    refine sNext ?_
    refine W.keep (F' := [(7, _), (9, _), (8, _), (23, _), (22, _), (6, _), (5, _), (4, _), (2, _)]) ⟨rfl, rfl, rfl, rfl, rfl, rfl, rfl, rfl, rfl, trivial⟩ ?_
    refine sSeq ?_
    refine sSeq ?_
    refine W.region ?_
    refine OpsW.det (det_move rfl) rfl ?_
    refine OpsW.test (det_eql rfl rfl) rfl (fun hc34 => ?_) (fun hc34 => ?_)
    · skip
      refine OpsW.det (det_move rfl) rfl ?_
      refine OpsW.guard_yes rfl rfl ?_
      refine OpsW.det (det_move rfl) rfl ?_
      refine OpsW.guard_yes rfl rfl ?_
      refine OpsW.det (det_move rfl) rfl ?_
      refine OpsW.guard_yes rfl rfl ?_
      refine OpsW.det (det_addN (b := 1) rfl rfl (by omega)) rfl ?_
      refine OpsW.guard_yes rfl rfl ?_
      refine OpsW.det (det_callv en80 (caps := [.pointer (some ⟨b3, 0, none⟩)]) rfl rfl (fun w hb ho => bit_ok (G' := G') (bv := b3) (i := (i + 1)) hB hl (by omega) (blocks_cons (hb _ (List.mem_append_right _ (List.Mem.tail _ (List.Mem.head _)))) ho.blocks))) rfl ?_
      refine OpsW.guard_yes rfl rfl ?_
      refine OpsW.det (det_eql rfl rfl) rfl ?_
      refine OpsW.det (det_pick rfl rfl) rfl ?_
      refine sNext ?_
      refine W.keep (F' := [(41, _), (7, _), (9, _), (23, _), (22, _), (6, _), (5, _), (4, _), (2, _)]) ⟨rfl, rfl, rfl, rfl, rfl, rfl, rfl, rfl, rfl, trivial⟩ ?_
      refine W.cond rfl (fun hc41 => ?_) (fun hc41 => ?_)
      · skip
        refine W.region ?_
        refine OpsW.det (det_assign rfl) rfl ?_
        refine OpsW.det (det_assign rfl) rfl ?_
        refine sNext ?_
        refine W.keep (F' := [(7, _), (9, _), (23, _), (22, _), (6, _), (5, _), (4, _), (2, _)]) ⟨rfl, rfl, rfl, rfl, rfl, rfl, rfl, rfl, trivial⟩ ?_
        refine W.region ?_
        refine OpsW.det (det_move rfl) rfl ?_
        refine OpsW.det (det_move rfl) rfl ?_
        refine OpsW.det (det_and rfl rfl) rfl ?_
        refine OpsW.det (det_move rfl) rfl ?_
        refine OpsW.det ((det_mul rfl rfl).to (v := .int .i64 (dg l i)) (dig_m hc34 hc41)) rfl ?_
        refine OpsW.fresh (fr_buildSlice rfl slice76) rfl fun b47 => ?_
        refine OpsW.perm (H' := hp ++ ((b47, blk [.int .i64 (dg l i)] 3) :: [(b4, blk (cellsP (0, 0)) 31), (b3, blk [.slice ad l.length cap] 22), (b2, blk (cellsP p) 31)])) List.perm_middle ?_
        refine OpsW.append (dd := 48) ty76 rfl hsl rfl (.inl (List.mem_append_right _ (List.Mem.head _))) rfl (fun j u h => by simpa using h) rfl (by show i + 1 ≤ 9223372036854775807; omega) (by show (i + 1) * 8 ≤ 140737488355328; omega) rfl fun v' hp' hsl' => ?_
        refine OpsW.det (det_assign rfl) rfl ?_
        refine sLast ?_
        refine bNext ?_
        refine W.keep (F' := [(5, _), (7, _), (23, _), (22, _), (6, _), (4, _), (2, _)]) ⟨rfl, rfl, rfl, rfl, rfl, rfl, rfl, trivial⟩ ?_
        refine W.region ?_
        refine OpsW.det (det_addN (b := 1) rfl rfl (by omega)) rfl ?_
        refine OpsW.det (det_move rfl) rfl ?_
        refine sLast ?_
        have ho := ov_m hc34 hc41
        exact rEnd (i + 1, v', hp') ⟨hlt, by rw [digs_succ]; exact hsl'⟩ ⟨rfl, rfl, by rw [← ho]; rfl, rfl, rfl, rfl, rfl, trivial⟩ (List.Sublist.append_left (List.Sublist.cons _ (List.Sublist.refl _)) _) (step_lt hlt)
      · skip
        refine sSkip ?_
        refine W.region ?_
        refine OpsW.det (det_move rfl) rfl ?_
        refine OpsW.det (det_move rfl) rfl ?_
        refine OpsW.det (det_and rfl rfl) rfl ?_
        refine OpsW.det (det_move rfl) rfl ?_
        refine OpsW.det ((det_mul rfl rfl).to (v := .int .i64 (dg l i)) (dig_1 hc34 hc41)) rfl ?_
        refine OpsW.fresh (fr_buildSlice rfl slice76) rfl fun b47 => ?_
        refine OpsW.perm (H' := hp ++ ((b47, blk [.int .i64 (dg l i)] 3) :: [(b4, blk (cellsP (0, 0)) 31), (b3, blk [.slice ad l.length cap] 22), (b2, blk (cellsP p) 31)])) List.perm_middle ?_
        refine OpsW.append (dd := 48) ty76 rfl hsl rfl (.inl (List.mem_append_right _ (List.Mem.head _))) rfl (fun j u h => by simpa using h) rfl (by show i + 1 ≤ 9223372036854775807; omega) (by show (i + 1) * 8 ≤ 140737488355328; omega) rfl fun v' hp' hsl' => ?_
        refine OpsW.det (det_assign rfl) rfl ?_
        refine sLast ?_
        refine bNext ?_
        refine W.keep (F' := [(5, _), (7, _), (23, _), (22, _), (6, _), (4, _), (2, _)]) ⟨rfl, rfl, rfl, rfl, rfl, rfl, rfl, trivial⟩ ?_
        refine W.region ?_
        refine OpsW.det (det_addN (b := 1) rfl rfl (by omega)) rfl ?_
        refine OpsW.det (det_move rfl) rfl ?_
        refine sLast ?_
        have ho := ov_1 hc41
        exact rEnd (i + 1, v', hp') ⟨hlt, by rw [digs_succ]; exact hsl'⟩ ⟨rfl, rfl, by rw [← ho]; rfl, rfl, rfl, rfl, rfl, trivial⟩ (List.Sublist.append_left (List.Sublist.cons _ (List.Sublist.refl _)) _) (step_lt hlt)
    · skip
      refine OpsW.det (det_move rfl) rfl ?_
      refine OpsW.guard_no rfl rfl rfl ?_
      refine OpsW.guard_no rfl rfl rfl ?_
      refine OpsW.guard_no rfl rfl rfl ?_
      refine OpsW.guard_no rfl rfl rfl ?_
      refine OpsW.guard_no rfl rfl rfl ?_
      refine OpsW.det (det_pick rfl rfl) rfl ?_
      refine sNext ?_
      refine W.keep (F' := [(41, _), (7, _), (9, _), (23, _), (22, _), (6, _), (5, _), (4, _), (2, _)]) ⟨rfl, rfl, rfl, rfl, rfl, rfl, rfl, rfl, rfl, trivial⟩ ?_
      refine W.cond_false rfl ?_
      refine sSkip ?_
      refine W.region ?_
      refine OpsW.det (det_move rfl) rfl ?_
      refine OpsW.det (det_move rfl) rfl ?_
      refine OpsW.det (det_and rfl rfl) rfl ?_
      refine OpsW.det (det_move rfl) rfl ?_
      refine OpsW.det ((det_mul rfl rfl).to (v := .int .i64 (dg l i)) (dig_n hc34)) rfl ?_
      refine OpsW.fresh (fr_buildSlice rfl slice76) rfl fun b47 => ?_
      refine OpsW.perm (H' := hp ++ ((b47, blk [.int .i64 (dg l i)] 3) :: [(b4, blk (cellsP (0, 0)) 31), (b3, blk [.slice ad l.length cap] 22), (b2, blk (cellsP p) 31)])) List.perm_middle ?_
      refine OpsW.append (dd := 48) ty76 rfl hsl rfl (.inl (List.mem_append_right _ (List.Mem.head _))) rfl (fun j u h => by simpa using h) rfl (by show i + 1 ≤ 9223372036854775807; omega) (by show (i + 1) * 8 ≤ 140737488355328; omega) rfl fun v' hp' hsl' => ?_
      refine OpsW.det (det_assign rfl) rfl ?_
      refine sLast ?_
      refine bNext ?_
      refine W.keep (F' := [(5, _), (7, _), (23, _), (22, _), (6, _), (4, _), (2, _)]) ⟨rfl, rfl, rfl, rfl, rfl, rfl, rfl, trivial⟩ ?_
      refine W.region ?_
      refine OpsW.det (det_addN (b := 1) rfl rfl (by omega)) rfl ?_
      refine OpsW.det (det_move rfl) rfl ?_
      refine sLast ?_
      have ho := ov_n hc34
      exact rEnd (i + 1, v', hp') ⟨hlt, by rw [digs_succ]; exact hsl'⟩ ⟨rfl, rfl, by rw [← ho]; rfl, rfl, rfl, rfl, rfl, trivial⟩ (List.Sublist.append_left (List.Sublist.cons _ (List.Sublist.refl _)) _) (step_lt hlt)
  · skip
    have hiN : i = 8 * l.length + 1 := by have h := hc24; simp only [decide_eq_false_iff_not] at h; omega
    subst hiN
    obtain ⟨pd, rfl, rfl, hpp⟩ := isSl_at hsl (Nat.succ_pos _)
    refine W.norm (F' := _) (H' := [(_, _), (_, _), (_, _), (_, _)]) rfl rfl ?_
    refine sExit ?_
    refine xLoop ?_
    refine xHere ?_
    refine W.keep (F' := [(5, _), (4, _), (2, _)]) ⟨rfl, rfl, rfl, trivial⟩ ?_
    refine sSeq ?_
    refine W.region ?_
    refine OpsW.fresh (fr_alloc z107r) rfl fun b10 => ?_
    refine sNext ?_
    refine sSeq ?_
    refine W.region ?_
    refine OpsW.det (det_loadA ty31 rfl (List.Mem.tail _ (List.Mem.tail _ (List.Mem.tail _ (List.Mem.tail _ (List.Mem.head _))))) rfl) rfl ?_
    refine OpsW.det (det_call en45 rfl (fun w hb ho => PNeg_ok (fun p hp => ho.look (List.mem_append_right _ hp)))) rfl ?_
    refine OpsW.fresh (fr_alloc z31) rfl fun b11 => ?_
    refine OpsW.store sz31 rfl rfl rfl rfl rfl (Upd.here) rfl ?_
    refine sNext ?_
    refine W.keep (F' := [(11, _), (10, _), (5, _), (4, _), (2, _)]) ⟨rfl, rfl, rfl, rfl, rfl, trivial⟩ ?_
    refine sSeq ?_
    refine sSeq ?_
    refine W.region ?_
    refine OpsW.det (det_move rfl) rfl ?_
    refine OpsW.det (det_len u76 rfl) rfl ?_
    refine OpsW.det (det_subZ (c := ((8 * l.length + 1 : Nat) : Int) - 1) rfl rfl (by omega) (by omega)) rfl ?_
    refine OpsW.det (det_assign rfl) rfl ?_
    refine sNext ?_
    refine W.keep (F' := [(12, _), (11, _), (10, _), (5, _), (4, _), (2, _)]) ⟨rfl, rfl, rfl, rfl, rfl, rfl, trivial⟩ ?_
    refine sBlock ?_
    have hjl : jl l p (8 * l.length + 1 - (8 * l.length + 1)) = (0, 0, 0) := by rw [Nat.sub_self]; rfl
    refine sLoop (σ := Nat) (fun k => [(12, .int .i64 (((k : Nat) : Int) - 1)), (11, .pointer (some ⟨b11, 0, none⟩)), (10, .pointer (some ⟨b10, 0, none⟩)), (5, .slice (some ⟨pd.1, 0, none⟩) (8 * l.length + 1) pd.2.1), (4, .pointer (some ⟨b4, 0, none⟩)), (2, .pointer (some ⟨b2, 0, none⟩))]) (fun k => [(b11, blk (cellsP (pneg p)) 31), (b10, blk (cellsJ (jl l p (8 * l.length + 1 - k))) 107), (pd.1, blk (digs l (8 * l.length + 1) ++ pd.2.2) 3), (b4, blk (cellsP (0, 0)) 31), (b3, blk [.slice ad l.length cap] 22), (b2, blk (cellsP p) 31)]) (fun k => k ≤ 8 * l.length + 1) (fun k => k) (8 * l.length + 1) (Nat.le_refl _) ⟨rfl, rfl, rfl, rfl, rfl, rfl, trivial⟩ (by rw [hjl]; exact List.Sublist.refl _) ?_
    intro k hk
    refine sSeq ?_
    refine sSeq ?_
    refine W.region ?_
    refine OpsW.det (det_move rfl) rfl ?_
    refine OpsW.det (det_geq rfl rfl) rfl ?_
    refine sNext ?_
    refine W.keep (F' := [(56, _), (12, _), (11, _), (10, _), (5, _), (4, _), (2, _)]) ⟨rfl, rfl, rfl, rfl, rfl, rfl, rfl, trivial⟩ ?_
    refine W.cond rfl (fun hc56 => ?_) (fun hc56 => ?_)
    · skip
      obtain ⟨k, rfl⟩ : ∃ j, k = j + 1 := ⟨k - 1, by have h := hc56; simp only [decide_eq_true_eq] at h; omega⟩
      refine W.norm (F' := [(56, _), (12, .int .i64 (k : Nat)), (11, _), (10, _), (5, _), (4, _), (2, _)]) (H' := [(_, _), (_, _), (_, _), (_, _), (_, _), (_, _)]) (by rw [show (((k + 1 : Nat) : Int) - 1) = ((k : Nat) : Int) by omega]) rfl ?_
      refine sSkip ?_
      refine sSeq ?_
      refine sBlock ?_
      refine sSeq ?_
      refine W.region ?_
      refine OpsW.det (det_loadA ty107 rfl (List.Mem.tail _ (List.Mem.head _)) rfl) rfl ?_
      refine OpsW.det (det_call en81 rfl (fun w hb ho => jdbl_ok (fun p hp => ho.look (List.mem_append_right _ hp)))) rfl ?_
      refine OpsW.store sz107 rfl rfl rfl rfl rfl (Upd.there (Upd.here)) rfl ?_
      refine sNext ?_
      refine W.keep (F' := [(12, _), (11, _), (10, _), (5, _), (4, _), (2, _)]) ⟨rfl, rfl, rfl, rfl, rfl, rfl, trivial⟩ ?_
      refine sSeq ?_
      refine W.region ?_
      refine OpsW.det (det_move rfl) rfl ?_
      refine OpsW.det (det_move rfl) rfl ?_
      refine OpsW.det (det_indexAddr_sl u76 sz3 rfl rfl ⟨by omega, by omega⟩) rfl ?_
      refine OpsW.det (det_loadC ty3 rfl (List.Mem.tail _ (List.Mem.tail _ (List.Mem.head _))) (digs_at (i := k) (n := 8 * l.length + 1) (by omega) (by omega))) rfl ?_
      refine sNext ?_
      refine W.keep (F' := [(64, _), (12, _), (11, _), (10, _), (5, _), (4, _), (2, _)]) ⟨rfl, rfl, rfl, rfl, rfl, rfl, rfl, trivial⟩ ?_
      refine sBlock ?_
      refine sSeq ?_
      refine W.region ?_
      refine OpsW.det (det_eql rfl rfl) rfl ?_
      refine OpsW.det (det_assign rfl) rfl ?_
      refine sNext ?_
      refine W.keep (F' := [(65, _), (64, _), (12, _), (11, _), (10, _), (5, _), (4, _), (2, _)]) ⟨rfl, rfl, rfl, rfl, rfl, rfl, rfl, rfl, trivial⟩ ?_
      refine W.cond rfl (fun hc65 => ?_) (fun hc65 => ?_)
      · skip
        refine W.region ?_
        refine OpsW.det (det_loadA ty107 rfl (List.Mem.tail _ (List.Mem.head _)) rfl) rfl ?_
        refine OpsW.det (det_loadA ty31 rfl (List.Mem.tail _ (List.Mem.tail _ (List.Mem.tail _ (List.Mem.tail _ (List.Mem.tail _ (List.Mem.head _)))))) rfl) rfl ?_
        refine OpsW.det (det_call en82 rfl (fun w hb ho => jadd_ok (fun p hp => ho.look (List.mem_append_right _ hp)))) rfl ?_
        refine OpsW.store sz107 rfl rfl rfl rfl rfl (Upd.there (Upd.here)) rfl ?_
        refine sLast ?_
        refine bLast ?_
        refine bNext ?_
        refine W.keep (F' := [(12, _), (11, _), (10, _), (5, _), (4, _), (2, _)]) ⟨rfl, rfl, rfl, rfl, rfl, rfl, trivial⟩ ?_
        refine W.region ?_
        refine OpsW.det (det_move rfl) rfl ?_
        refine OpsW.det (det_subZ (c := ((k : Nat) : Int) - 1) rfl rfl (by omega) (by omega)) rfl ?_
        refine OpsW.det (det_assign rfl) rfl ?_
        refine sLast ?_
        exact rEnd k (Nat.le_of_succ_le hk) ⟨rfl, rfl, rfl, rfl, rfl, rfl, trivial⟩ (by rw [jl_one hk hc65]; exact List.Sublist.refl _) (Nat.lt_succ_self _)
      · skip
        refine sSeq ?_
        refine W.region ?_
        refine OpsW.det (det_eql rfl rfl) rfl ?_
        refine OpsW.det (det_assign rfl) rfl ?_
        refine sNext ?_
        refine W.keep (F' := [(70, _), (12, _), (11, _), (10, _), (5, _), (4, _), (2, _)]) ⟨rfl, rfl, rfl, rfl, rfl, rfl, rfl, trivial⟩ ?_
        refine W.cond rfl (fun hc70 => ?_) (fun hc70 => ?_)
        · skip
          refine W.region ?_
          refine OpsW.det (det_loadA ty107 rfl (List.Mem.tail _ (List.Mem.head _)) rfl) rfl ?_
          refine OpsW.det (det_loadA ty31 rfl (List.Mem.head _) rfl) rfl ?_
          refine OpsW.det (det_call en82 rfl (fun w hb ho => jadd_ok (fun p hp => ho.look (List.mem_append_right _ hp)))) rfl ?_
          refine OpsW.store sz107 rfl rfl rfl rfl rfl (Upd.there (Upd.here)) rfl ?_
          refine sLast ?_
          refine bLast ?_
          refine bNext ?_
          refine W.keep (F' := [(12, _), (11, _), (10, _), (5, _), (4, _), (2, _)]) ⟨rfl, rfl, rfl, rfl, rfl, rfl, trivial⟩ ?_
          refine W.region ?_
          refine OpsW.det (det_move rfl) rfl ?_
          refine OpsW.det (det_subZ (c := ((k : Nat) : Int) - 1) rfl rfl (by omega) (by omega)) rfl ?_
          refine OpsW.det (det_assign rfl) rfl ?_
          refine sLast ?_
          exact rEnd k (Nat.le_of_succ_le hk) ⟨rfl, rfl, rfl, rfl, rfl, rfl, trivial⟩ (by rw [jl_neg hk hc65 hc70]; exact List.Sublist.refl _) (Nat.lt_succ_self _)
        · skip
          refine sSkip0 ?_
          refine bLast ?_
          refine bNext ?_
          refine W.keep (F' := [(12, _), (11, _), (10, _), (5, _), (4, _), (2, _)]) ⟨rfl, rfl, rfl, rfl, rfl, rfl, trivial⟩ ?_
          refine W.region ?_
          refine OpsW.det (det_move rfl) rfl ?_
          refine OpsW.det (det_subZ (c := ((k : Nat) : Int) - 1) rfl rfl (by omega) (by omega)) rfl ?_
          refine OpsW.det (det_assign rfl) rfl ?_
          refine sLast ?_
          exact rEnd k (Nat.le_of_succ_le hk) ⟨rfl, rfl, rfl, rfl, rfl, rfl, trivial⟩ (by rw [jl_nil hk hc65 hc70]; exact List.Sublist.refl _) (Nat.lt_succ_self _)
    · skip
      have hk0 : k = 0 := by have h := hc56; simp only [decide_eq_false_iff_not] at h; omega
      subst hk0
      refine sExit ?_
      refine xLoop ?_
      refine xHere ?_
      refine W.keep (F' := [(10, _), (4, _)]) ⟨rfl, rfl, trivial⟩ ?_
      refine sSeq ?_
      refine W.region ?_
      refine OpsW.det (det_loadA ty107 rfl (List.Mem.tail _ (List.Mem.head _)) rfl) rfl ?_
      refine OpsW.det (det_call en83 rfl (fun w hb ho => point_ok (fun p hp => ho.look (List.mem_append_right _ hp)))) rfl ?_
      refine OpsW.store sz31 rfl rfl rfl rfl rfl (Upd.there (Upd.there (Upd.there (Upd.here)))) rfl ?_
      refine sNext ?_
      refine W.keep (F' := [(4, _)]) ⟨rfl, trivial⟩ ?_
      refine sRet ?_
      exact done1 Tryd.results59 (rv_cellA ty31 rfl (List.Mem.tail _ (List.Mem.tail _ (List.Mem.tail _ (List.Mem.head _)))) rfl) rfl

end Go.Cu
