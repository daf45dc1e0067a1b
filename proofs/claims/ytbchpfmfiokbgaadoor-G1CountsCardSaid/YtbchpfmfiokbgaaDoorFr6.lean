/-
  The scalars: of any bytes: the walk. Conditions: none.
-/
import Derived.Test.YtbchpfmfiokbgaaDoorFr5
namespace Go.Cu
open Go Go.Vm Go.RowKit Go.Proofs 
attribute [local irreducible] W OpsW Det Fresh New Writes Vm.Pure Makes Changes ExternTo BuildTo ZeroTo FieldTo IndexTo BinTo SliceTo Vm.Enters
set_option linter.unusedVariables false
set_option linter.unusedSimpArgs false
variable {T : Nat → TypeId × Nat × Nat}

/-- v is a slice of the bytes l, which lie in a block of G'. -/
structure Bs (G' : Hp) (v : Value) (l : List Nat) : Prop where
  shape : ∃ ad cap, v = .slice ad l.length cap
  small : ∀ c ∈ l, c < 256
  all : 0 < l.length → ∃ (b o cap : Nat) (cs : List Value) (e : TypeId) (fr : Nat × Nat), v = .slice (some ⟨b, o, none⟩) l.length cap ∧ (b, Obj.cells cs.toArray e fr) ∈ G' ∧ l.length ≤ cap ∧ ∀ i (h : i < l.length), cs[o + i]? = some (u8 l[i])
theorem Bs.at_ {G' : Hp} {v : Value} {l : List Nat} (hB : Bs G' v l) (i : Nat) (h : i < l.length) : ∃ (b o cap : Nat) (cs : List Value) (e : TypeId) (fr : Nat × Nat), v = .slice (some ⟨b, o, none⟩) l.length cap ∧ (b, Obj.cells cs.toArray e fr) ∈ G' ∧ cs[o + i]? = some (u8 l[i]) := by
  obtain ⟨b, o, cap, cs, e, fr, h1, h2, _, h3⟩ := hB.all (by omega)
  exact ⟨b, o, cap, cs, e, fr, h1, h2, h3 i h⟩
theorem Bs.mono {G' G'' : Hp} {v : Value} {l : List Nat} (h : Bs G' v l) (hs : ∀ p ∈ G', p ∈ G'') : Bs G'' v l :=
  ⟨h.shape, h.small, fun i => by obtain ⟨b, o, cap, cs, e, fr, h1, h2, h3⟩ := h.all i; exact ⟨b, o, cap, cs, e, fr, h1, hs _ h2, h3⟩⟩
theorem blocks_cons {G : Hp} {w : World} {p : Nat × Obj} (h : w.heap[p.1]? = some p.2) (hG : Blocks G w) : Blocks (p :: G) w := fun q hq => by
  rcases List.mem_cons.1 hq with rfl | hq
  · exact h
  · exact hG q hq
theorem blocks_app {G G' : Hp} {w : World} (h : Blocks G w) (h' : Blocks G' w) : Blocks (G ++ G') w := fun q hq => (List.mem_append.1 hq).elim (h q) (h' q)
def bcells (l : List Nat) : List Value := l.map u8
theorem Bs.of {l : List Nat} {b cap : Nat} {spare : List Value} {e : TypeId} {fr : Nat × Nat} (hs : ∀ c ∈ l, c < 256) (hcap : l.length ≤ cap) : Bs [(b, .cells (bcells l ++ spare).toArray e fr)] (.slice (some ⟨b, 0, none⟩) l.length cap) l :=
  ⟨⟨_, _, rfl⟩, hs, fun _ => ⟨b, 0, cap, _, e, fr, rfl, List.mem_singleton.2 rfl, hcap, fun i hi => by rw [Nat.zero_add, List.getElem?_append_left (by simp [bcells]; exact hi)]; simp [bcells, hi]⟩⟩
/-- The number that bytes make, below the order. -/
def wide (l : List Nat) : Fs := l.foldl (fun x c => x * Zp.of 256 + Zp.of c) 0
theorem wide_step {l : List Nat} {i : Nat} (h : i < l.length) : wide (l.take (i + 1)) = wide (l.take i) * Zp.of 256 + Zp.of l[i] := by
  unfold wide
  rw [List.take_succ_eq_append_getElem h, List.foldl_append]
  rfl
theorem z35r : TyZ Tryd.prog 35 (encR 0) (w4 (lim (montr 0))) := ⟨fun _ => by kernel_rfl, rfl⟩
theorem conv_byte {c : Nat} (h : c < 256) : Value.int .u64 (IntKind.u64.wrap (c : Int)) = u64 c := by rw [wrap_u64 (by omega)]; rfl
/-- The first i bytes, and noughts. -/
def cst (l : List Nat) (i : Nat) : List Value := bcells (l.take i) ++ List.replicate (l.length - i) (u8 0)
theorem cst_put {l : List Nat} {i : Nat} (h : i < l.length) : splice i [u8 l[i]] (cst l i) = some (cst l (i + 1)) := by
  have := splice_app (a := bcells (l.take i)) (new := [u8 l[i]]) (c := List.replicate (l.length - i) (u8 0)) (by simp; omega)
  rw [show (bcells (l.take i)).length = i by simp [bcells]; omega] at this
  unfold cst
  rw [this, List.take_succ_eq_append_getElem h, List.drop_replicate]
  simp only [bcells, List.map_append, List.map_cons, List.map_nil, List.length_singleton]
  rw [Nat.sub_sub]
theorem cst_0 (l : List Nat) : zrep [.int .u8 0] l.length = cst l 0 := by
  unfold cst bcells
  simp only [List.take_zero, List.map_nil, List.nil_append, Nat.sub_zero]
  generalize l.length = n
  induction n with
  | zero => rfl
  | succ n ih => simp only [zrep, List.replicate_succ] at ih ⊢; first | exact congrArg _ ih | rw [ih]; rfl
theorem cst_all (l : List Nat) : cst l l.length = bcells l ++ [] := by unfold cst; simp [bcells]

theorem en26 : Vm.Enters Tryd.prog 26 := Vm.Enters.of fun _ _ => by kernel_rfl
theorem en28 : Vm.Enters Tryd.prog 28 := Vm.Enters.of fun _ _ => by kernel_rfl
theorem ty5 : TyC Tryd.prog 5 := ⟨by kernel_rfl, by kernel_rfl⟩
theorem Wide_ok {G' : Hp} {v : Value} {l : List Nat} (hB : Bs G' v l) (hl : l.length ≤ 9223372036854775806) {w : World} (hG : Blocks (G' ++ GH T) w)  : Vm.Pure Tryd.prog 50 #[v] w (encR (wide l)) := by
  obtain ⟨ad, cap, hvv⟩ := hB.shape
  refine pure_of_W (n := 23) (args := [v]) Tryd.func50 rfl Tryd.ntmps50 (Nat.le_of_ble_eq_true rfl) hG ?_
  refine sStart ?_
  refine sSeq ?_
  subst hvv
  refine W.region ?_
  refine OpsW.fresh (fr_alloc z35) rfl fun b2 => ?_
  refine sNext ?_
  refine sSeq ?_
  refine W.region ?_
  refine OpsW.fresh (fr_alloc z35r) rfl fun b3 => ?_
  refine sNext ?_
  refine sSeq ?_
  refine W.region ?_
  refine OpsW.det (det_call en26 rfl (fun w hb ho => ROf_ok (n := 256) (by decide) (fun p hp => ho.look (List.mem_append_right _ hp)))) rfl ?_
  refine OpsW.fresh (fr_alloc z35) rfl fun b4 => ?_
  refine OpsW.store sz35 rfl rfl rfl rfl rfl (Upd.here) rfl ?_
  refine sNext ?_
  refine W.keep (F' := [(4, _), (3, _), (2, _), (0, _)]) ⟨rfl, rfl, rfl, rfl, trivial⟩ ?_
  refine sSeq ?_
  refine sSeq ?_
  refine W.region ?_
  refine OpsW.det (det_move rfl) rfl ?_
  refine OpsW.det (det_len u22 rfl) rfl ?_
  refine OpsW.det (det_move rfl) rfl ?_
  refine sNext ?_
  refine W.keep (F' := [(10, _), (9, _), (8, _), (4, _), (3, _), (2, _)]) ⟨rfl, rfl, rfl, rfl, rfl, rfl, trivial⟩ ?_
  refine sBlock ?_
  refine sLoop (σ := Nat) (fun i => [(10, .int .i64 (i : Nat)), (9, .int .i64 (l.length : Nat)), (8, .slice ad l.length cap), (4, .pointer (some ⟨b4, 0, none⟩)), (3, .pointer (some ⟨b3, 0, none⟩)), (2, .pointer (some ⟨b2, 0, none⟩))]) (fun i => [(b4, blk (w4 (lim (montr (Zp.of 256)))) 35), (b3, blk (w4 (lim (montr (wide (l.take i))))) 35), (b2, blk [.int .u64 0, .int .u64 0, .int .u64 0, .int .u64 0] 35)]) (fun i => i ≤ l.length) (fun i => l.length - i) 0 (Nat.zero_le _) ⟨rfl, rfl, rfl, rfl, rfl, rfl, trivial⟩ (List.Sublist.refl _) ?_
  intro i hi
  refine sSeq ?_
  refine W.region ?_
  refine OpsW.det (det_lss rfl rfl) rfl ?_
  refine sNext ?_
  refine sSeq ?_
  refine W.cond rfl (fun hc11 => ?_) (fun hc11 => ?_)
  · skip
    have hlt : i < l.length := by have h := hc11; simp only [decide_eq_true_eq] at h; omega
    obtain ⟨bk, o, cap', cs, e, fr, hv, hm, hcell⟩ := hB.at_ i hlt
    simp only [Value.slice.injEq] at hv
    obtain ⟨rfl, _, rfl⟩ := hv
    refine sSkip ?_
    refine sSeq ?_
    refine sBlock ?_
    refine sSeq ?_
    refine W.region ?_
    refine OpsW.det (det_indexAddr_sl u22 sz5 rfl rfl ⟨by omega, by omega⟩) rfl ?_
    refine OpsW.det (det_loadC_ro ty5 rfl (List.mem_append_left _ hm) (show cs[o + ((i : Nat) : Int).toNat * 1]? = some (u8 l[i]) by simpa using hcell)) rfl ?_
    refine OpsW.det (det_assign rfl) rfl ?_
    refine sNext ?_
    refine W.keep (F' := [(6, _), (10, _), (9, _), (8, _), (4, _), (3, _), (2, _)]) ⟨rfl, rfl, rfl, rfl, rfl, rfl, rfl, trivial⟩ ?_
    refine W.region ?_
    refine OpsW.det (det_loadA ty35 rfl (List.Mem.tail _ (List.Mem.head _)) rfl) rfl ?_
    refine OpsW.det (det_loadA ty35 rfl (List.Mem.head _) rfl) rfl ?_
    refine OpsW.det (det_call en30 rfl (fun w hb ho => RMul_ok (fun p hp => ho.look (List.mem_append_right _ hp)))) rfl ?_
    refine OpsW.det (det_move rfl) rfl ?_
    refine OpsW.det ((det_conv u5 u25 rfl).to (conv_byte (hB.small _ (List.getElem_mem hlt)))) rfl ?_
    refine OpsW.det (det_call en26 rfl (fun w hb ho => ROf_ok (Nat.lt_trans (hB.small _ (List.getElem_mem hlt)) (by decide)) (fun p hp => ho.look (List.mem_append_right _ hp)))) rfl ?_
    refine OpsW.det (det_call en28 rfl (fun w hb ho => RAdd_ok (fun p hp => ho.look (List.mem_append_right _ hp)))) rfl ?_
    refine OpsW.store sz35 rfl rfl rfl rfl rfl (Upd.there (Upd.here)) rfl ?_
    refine sLast ?_
    refine bNext ?_
    refine W.keep (F' := [(10, _), (9, _), (8, _), (4, _), (3, _), (2, _)]) ⟨rfl, rfl, rfl, rfl, rfl, rfl, trivial⟩ ?_
    refine W.region ?_
    refine OpsW.det (det_addN (b := 1) rfl rfl (by omega)) rfl ?_
    refine OpsW.det (det_move rfl) rfl ?_
    refine sLast ?_
    exact rEnd (i + 1) hlt ⟨rfl, rfl, rfl, rfl, rfl, rfl, trivial⟩ (by rw [wide_step hlt]; exact List.Sublist.refl _) (step_lt hlt)
  · skip
    have hi4 : i = l.length := by have h := hc11; simp only [decide_eq_false_iff_not] at h; omega
    subst hi4
    refine sExit ?_
    refine xLoop ?_
    refine xHere ?_
    refine W.keep (F' := [(3, _), (2, _)]) ⟨rfl, rfl, trivial⟩ ?_
    refine sSeq ?_
    refine W.region ?_
    refine OpsW.det (det_loadA ty35 rfl (List.Mem.tail _ (List.Mem.head _)) rfl) rfl ?_
    refine OpsW.store sz35 rfl rfl rfl rfl rfl (Upd.there (Upd.there (Upd.here))) rfl ?_
    refine sNext ?_
    refine W.keep (F' := [(2, _)]) ⟨rfl, trivial⟩ ?_
    refine sRet ?_
    exact done1 Tryd.results50 (rv_cellA ty35 rfl (List.Mem.tail _ (List.Mem.tail _ (List.Mem.head _))) rfl) (congrArg (fun z => encR (wide z)) (List.take_length))

end Go.Cu
