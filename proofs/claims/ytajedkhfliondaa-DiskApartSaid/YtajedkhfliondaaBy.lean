/-
  Bytes: copies, alike ones: the walks. Conditions: as many as memory has.
-/
import Derived.Test.YtajedkhfliondaaOwn
import Derived.Test.YtajedkhfliondaaProg
namespace Go.Cu
open Go Go.Vm Go.RowKit Go.Proofs 
attribute [local irreducible] W OpsW Det Fresh New Writes Vm.Pure Makes Changes ExternTo BuildTo ZeroTo FieldTo IndexTo BinTo SliceTo Vm.Enters
set_option linter.unusedVariables false
set_option linter.unusedSimpArgs false

theorem nob {w : World} : Blocks [] w := fun _ h => by cases h
theorem mixed : Try.prog.follows .mixedOrders = true := by kernel_rfl
def u8 (n : Nat) : Value := .int .u8 (n : Int)
theorem ty22 : TyS Try.prog 22 5 1 1 [.int .u8 0] := ⟨by kernel_rfl, by kernel_rfl, by kernel_rfl, ⟨.int .u8 0, by kernel_rfl, by kernel_rfl⟩, rfl, by decide⟩
theorem wrap_u8 {a : Nat} : IntKind.u8.wrap (a : Int) = ((a % 256 : Nat) : Int) := by simp [IntKind.wrap, IntKind.signed, IntKind.bits]
theorem over_app : ∀ {new c : List Value}, new.length ≤ c.length → over new c = some (new ++ c.drop new.length)
  | [], c, _ => by simp [over]
  | v :: new, [], h => by simp at h
  | v :: new, x :: c, h => by
    have := over_app (new := new) (c := c) (by simpa using h)
    simp [over, this]
theorem splice_app {new c : List Value} (h : new.length ≤ c.length) : ∀ {a : List Value}, splice a.length new (a ++ c) = some (a ++ new ++ c.drop new.length)
  | [] => by simpa [splice] using over_app h
  | x :: a => by
    have := splice_app h (a := a)
    simp [splice, this]
theorem step_lt {n i : Nat} (h : i < n) : n - (i + 1) < n - i := by omega
/-- v is a slice of the bytes l, which lie in a block of G'. -/
structure Bs (G' : Hp) (v : Value) (l : List Nat) : Prop where
  shape : ∃ ad cap, v = .slice ad l.length cap
  small : ∀ c ∈ l, c < 256
  all : 0 < l.length → ∃ (b o cap : Nat) (cs : List Value) (e : TypeId) (fr : Nat × Nat), v = .slice (some ⟨b, o, none⟩) l.length cap ∧ (b, Obj.cells cs.toArray e fr) ∈ G' ∧ l.length ≤ cap ∧ ∀ i (h : i < l.length), cs[o + i]? = some (u8 l[i])
theorem Bs.at_ {G' : Hp} {v : Value} {l : List Nat} (hB : Bs G' v l) (i : Nat) (h : i < l.length) : ∃ (b o cap : Nat) (cs : List Value) (e : TypeId) (fr : Nat × Nat), v = .slice (some ⟨b, o, none⟩) l.length cap ∧ (b, Obj.cells cs.toArray e fr) ∈ G' ∧ cs[o + i]? = some (u8 l[i]) := by
  obtain ⟨b, o, cap, cs, e, fr, h1, h2, _, h3⟩ := hB.all (by omega)
  exact ⟨b, o, cap, cs, e, fr, h1, h2, h3 i h⟩
theorem Bs.mono {G' G'' : Hp} {v : Value} {l : List Nat} (h : Bs G' v l) (hs : ∀ p ∈ G', p ∈ G'') : Bs G'' v l :=
  ⟨h.shape, h.small, fun i => by obtain ⟨b, o, cap, cs, e, fr, h1, h2, h3⟩ := h.all i; exact ⟨b, o, cap, cs, e, fr, h1, hs _ h2, h3⟩⟩
theorem blocks_cons {G : Hp} {w : World} {p : Nat × Obj} (h : w.heap[p.1]? = some p.2) (hG : Blocks G w) : Blocks (p :: G) w := fun q hq => by
  rcases List.mem_cons.1 hq with rfl | hq
  · exact h
  · exact hG q hq
theorem blocks_app {G G' : Hp} {w : World} (h : Blocks G w) (h' : Blocks G' w) : Blocks (G ++ G') w := fun q hq => (List.mem_append.1 hq).elim (h q) (h' q)
def bcells (l : List Nat) : List Value := l.map u8
theorem bcells_length (l : List Nat) : (bcells l).length = l.length := List.length_map ..
theorem bcells_app (l m : List Nat) : bcells (l ++ m) = bcells l ++ bcells m := List.map_append
theorem bcells_take (l : List Nat) (k : Nat) : bcells (l.take k) = (bcells l).take k := List.map_take
theorem bcells_one (l : List Nat) : (bcells l).all (·.oneCell') = true := by
  rw [List.all_eq_true]
  intro v hv
  obtain ⟨z, _, rfl⟩ := List.mem_map.1 hv
  rfl
theorem Bs.of {l : List Nat} {b cap : Nat} {spare : List Value} {e : TypeId} {fr : Nat × Nat} (hs : ∀ c ∈ l, c < 256) (hcap : l.length ≤ cap) : Bs [(b, .cells (bcells l ++ spare).toArray e fr)] (.slice (some ⟨b, 0, none⟩) l.length cap) l :=
  ⟨⟨_, _, rfl⟩, hs, fun _ => ⟨b, 0, cap, _, e, fr, rfl, List.mem_singleton.2 rfl, hcap, fun i hi => by rw [Nat.zero_add, List.getElem?_append_left (by simp [bcells]; exact hi)]; simp [bcells, hi]⟩⟩
theorem Bs.nil {G' : Hp} {ad : Option Addr} {c : Nat} : Bs G' (.slice ad 0 c) [] := ⟨⟨ad, c, rfl⟩, (fun _ h => by cases h), (fun h => by cases h)⟩
/-- What is owned is a slice of bytes. -/
theorem Bs.own {e : TypeId} {ad : Option Addr} {len cap : Nat} {hp : Hp} {l : List Nat} (hs : ∀ c ∈ l, c < 256) (h : Own e ad len cap hp (bcells l)) : Bs hp (.slice ad len cap) l := by
  have hl := h.len
  rw [bcells_length] at hl
  generalize hx : bcells l = xs at h
  cases h with
  | none h0 =>
    have : l = [] := List.eq_nil_of_length_eq_zero hl
    subst this
    exact .nil
  | at_ h0 h1 h2 h3 =>
    subst hx
    subst hl
    exact Bs.of hs h1
/-- What may be appended. -/
theorem Bs.src {G' H G : Hp} {ad : Option Addr} {c : Nat} {l : List Nat} {n : Nat} (hB : Bs G' (.slice ad n c) l) (hG : ∀ p ∈ G', p ∈ H ∨ p ∈ G) : Src H G ad n (bcells l) := by
  obtain ⟨ad', cap', hv⟩ := hB.shape
  injection hv with h1 h2 h3
  subst h1; subst h2; subst h3
  refine ⟨bcells_length l, ?_⟩
  rcases Nat.eq_zero_or_pos l.length with h0 | h0
  · exact .inl h0
  · obtain ⟨b, o, cap, cs, e, fr, h1, h2, _, h3⟩ := hB.all h0
    injection h1 with h1
    refine .inr ⟨b, o, cs, e, fr, h1, hG _ h2, fun j u hj => ?_⟩
    unfold bcells at hj
    rw [List.getElem?_map, Option.map_eq_some_iff] at hj
    obtain ⟨z, hz, rfl⟩ := hj
    obtain ⟨hj2, rfl⟩ := List.getElem?_eq_some_iff.1 hz
    exact h3 j hj2
/-- The first i bytes, and noughts. -/
def cst (l : List Nat) (i : Nat) : List Value := bcells (l.take i) ++ List.replicate (l.length - i) (u8 0)
theorem cst_put {l : List Nat} {i : Nat} (h : i < l.length) : splice i [u8 l[i]] (cst l i) = some (cst l (i + 1)) := by
  have := splice_app (a := bcells (l.take i)) (new := [u8 l[i]]) (c := List.replicate (l.length - i) (u8 0)) (by simp; omega)
  rw [show (bcells (l.take i)).length = i by simp [bcells]; omega] at this
  unfold cst
  rw [this, List.take_succ_eq_append_getElem h, List.drop_replicate]
  simp only [bcells, List.map_append, List.map_cons, List.map_nil, List.length_singleton]
  rw [Nat.sub_sub]
theorem cst_0 (l : List Nat) : zrep [.int .u8 0] l.length = cst l 0 := by
  unfold cst bcells
  simp only [List.take_zero, List.map_nil, List.nil_append, Nat.sub_zero]
  generalize l.length = n
  induction n with
  | zero => rfl
  | succ n ih => simp only [zrep, List.replicate_succ] at ih ⊢; first | exact congrArg _ ih | rw [ih]; rfl
theorem cst_all (l : List Nat) : cst l l.length = bcells l ++ [] := by unfold cst; simp [bcells]
theorem cst_at {l : List Nat} {i k : Nat} (h : i < l.length) (hk : k = i) : splice k [u8 l[i]] (cst l i) = some (cst l (i + 1)) := by subst hk; exact cst_put h
theorem blk_congr {a b : List Value} {n t : Nat} {r : Hp} (h : a = b) : List.Sublist ((n, blk a t) :: r) ((n, blk b t) :: r) := by subst h; exact List.Sublist.refl _
theorem cells_u8 {cs : List Value} {o i : Nat} {v : Value} (h : cs[o + i]? = some v) : cs[o + ((i : Nat) : Int).toNat * 1]? = some v := by rw [Int.toNat_natCast, Nat.mul_one]; exact h
theorem take_stepN {l1 l2 : List Nat} {i : Nat} (h1 : i < l1.length) (h2 : i < l2.length) (h : l1.take i = l2.take i) (he : l1[i] = l2[i]) : l1.take (i + 1) = l2.take (i + 1) := by
  rw [List.take_succ_eq_append_getElem h1, List.take_succ_eq_append_getElem h2, h, he]

theorem sz5 : sizeIn Try.prog 5 = some 1 := by kernel_rfl
theorem ty5 : TyC Try.prog 5 := ⟨by kernel_rfl, by kernel_rfl⟩
theorem u22 : Try.prog.underlying 22 = some (.slice 5) := by kernel_rfl
theorem u5 : Try.prog.underlying 5 = some (.int .u8) := by kernel_rfl
theorem Copy_ok {G' : Hp} {v : Value} {l : List Nat} (hB : Bs G' v l) (hl : l.length ≤ 281474976710656) {w : World} (hG : Blocks G' w)  : Makes Try.prog 11 #[v] w (fun p => .slice (some ⟨p.1, 0, none⟩) l.length l.length) (fun p => [(p.1, blk (bcells l ++ []) 5)]) (fun _ => True) := by
  obtain ⟨ad, cap, hvv⟩ := hB.shape
  refine makes_of_W (n := 22) (args := [v]) Try.func11 rfl Try.ntmps11 (Nat.le_of_ble_eq_true rfl) hG ?_
  refine sStart ?_
  refine sSeq ?_
  subst hvv
  refine W.region ?_
  refine OpsW.det (det_assign rfl) rfl ?_
  refine sNext ?_
  refine W.keep (F' := [(0, _)]) ⟨rfl, trivial⟩ ?_
  refine sSeq ?_
  refine W.region ?_
  refine OpsW.det (det_move rfl) rfl ?_
  refine OpsW.det (det_len u22 rfl) rfl ?_
  refine OpsW.fresh (fr_makeSlice ty22 rfl rfl (Nat.le_refl _) (by omega) (by omega)) rfl fun b7 => ?_
  refine OpsW.det (det_assign rfl) rfl ?_
  refine sNext ?_
  refine W.keep (F' := [(3, _), (0, _)]) ⟨rfl, rfl, trivial⟩ ?_
  refine sSeq ?_
  refine sSeq ?_
  refine W.region ?_
  refine OpsW.det (det_move rfl) rfl ?_
  refine OpsW.det (det_len u22 rfl) rfl ?_
  refine OpsW.det (det_move rfl) rfl ?_
  refine sNext ?_
  refine W.keep (F' := [(10, _), (9, _), (3, _), (0, _)]) ⟨rfl, rfl, rfl, rfl, trivial⟩ ?_
  refine sBlock ?_
  refine sLoop (σ := Nat) (fun i => [(10, .int .i64 (i : Nat)), (9, .int .i64 (l.length : Nat)), (3, .slice (some ⟨b7, 0, none⟩) l.length l.length), (0, .slice ad l.length cap)]) (fun i => [(b7, blk (cst l i) 5)]) (fun i => i ≤ l.length) (fun i => l.length - i) 0 (Nat.zero_le _) ⟨rfl, rfl, rfl, rfl, trivial⟩ (blk_congr (cst_0 l).symm) ?_
  intro i hi
  refine sSeq ?_
  refine W.region ?_
  refine OpsW.det (det_lss rfl rfl) rfl ?_
  refine sNext ?_
  refine sSeq ?_
  refine W.cond rfl (fun hc11 => ?_) (fun hc11 => ?_)
  · skip
    have hlt : i < l.length := by have h := hc11; simp only [decide_eq_true_eq] at h; omega
    obtain ⟨bk, o, cap', cs, e, fr, hv, hm, hcell⟩ := hB.at_ i hlt
    simp only [Value.slice.injEq] at hv
    obtain ⟨rfl, _, rfl⟩ := hv
    refine sSkip ?_
    refine sSeq ?_
    refine sBlock ?_
    refine sSeq ?_
    refine W.region ?_
    refine OpsW.det (det_move rfl) rfl ?_
    refine OpsW.det (det_assign rfl) rfl ?_
    refine sNext ?_
    refine W.keep (F' := [(4, _), (10, _), (9, _), (3, _), (0, _)]) ⟨rfl, rfl, rfl, rfl, rfl, trivial⟩ ?_
    refine W.region ?_
    refine OpsW.det (det_move rfl) rfl ?_
    refine OpsW.det (det_move rfl) rfl ?_
    refine OpsW.det (det_move rfl) rfl ?_
    refine OpsW.det (det_move rfl) rfl ?_
    refine OpsW.det (det_indexAddr_sl u22 sz5 rfl rfl ⟨by omega, by omega⟩) rfl ?_
    refine OpsW.det (det_loadC_ro ty5 rfl hm (show cs[o + ((i : Nat) : Int).toNat * 1]? = some (u8 l[i]) by simpa using hcell)) rfl ?_
    refine OpsW.det (det_indexAddr_sl u22 sz5 rfl rfl ⟨by omega, by omega⟩) rfl ?_
    refine OpsW.store sz5 rfl rfl rfl rfl rfl (Upd.here) (cst_at hlt (by omega)) ?_
    refine sLast ?_
    refine bNext ?_
    refine W.keep (F' := [(10, _), (9, _), (3, _), (0, _)]) ⟨rfl, rfl, rfl, rfl, trivial⟩ ?_
    refine W.region ?_
    refine OpsW.det (det_addN (b := 1) rfl rfl (by omega)) rfl ?_
    refine OpsW.det (det_move rfl) rfl ?_
    refine sLast ?_
    exact rEnd (i + 1) hlt ⟨rfl, rfl, rfl, rfl, trivial⟩ (List.Sublist.refl _) (step_lt hlt)
  · skip
    have hi4 : i = l.length := by have h := hc11; simp only [decide_eq_false_iff_not] at h; omega
    subst hi4
    refine sExit ?_
    refine xLoop ?_
    refine xHere ?_
    refine W.keep (F' := [(3, _)]) ⟨rfl, trivial⟩ ?_
    refine sSeq ?_
    refine W.region ?_
    refine OpsW.det (det_move rfl) rfl ?_
    refine OpsW.det (det_assign rfl) rfl ?_
    refine sNext ?_
    refine W.keep (F' := [(2, _)]) ⟨rfl, trivial⟩ ?_
    refine sRet ?_
    exact done1 Try.results11 (rv_tmp rfl) ⟨(b7, 0, []), trivial, rfl, blk_congr (cst_all l).symm⟩
theorem same_ok {G' : Hp} {v v2 : Value} {l l2 : List Nat} (hB : Bs G' v l) (hB2 : Bs G' v2 l2) (hlen : l.length ≤ 9223372036854775806) {w : World} (hG : Blocks G' w)  : Vm.Pure Try.prog 16 #[v, v2] w (.bool (decide (l = l2))) := by
  obtain ⟨ad, cap, hvv⟩ := hB.shape
  obtain ⟨ad2, cap2, hvv2⟩ := hB2.shape
  refine pure_of_W (n := 26) (args := [v, v2]) Try.func16 rfl Try.ntmps16 (Nat.le_of_ble_eq_true rfl) hG ?_
  refine sStart ?_
  refine sSeq ?_
  subst hvv
  subst hvv2
  refine W.region ?_
  refine OpsW.det (det_assign rfl) rfl ?_
  refine sNext ?_
  refine W.keep (F' := [(0, _), (1, _)]) ⟨rfl, rfl, trivial⟩ ?_
  refine sSeq ?_
  refine sSeq ?_
  refine W.region ?_
  refine OpsW.det (det_move rfl) rfl ?_
  refine OpsW.det (det_len u22 rfl) rfl ?_
  refine OpsW.det (det_move rfl) rfl ?_
  refine OpsW.det (det_len u22 rfl) rfl ?_
  refine OpsW.det (det_neq (a := (l.length : Int)) (b := (l2.length : Int)) rfl rfl) rfl ?_
  refine sNext ?_
  refine W.keep (F' := [(10, _), (0, _), (1, _)]) ⟨rfl, rfl, rfl, trivial⟩ ?_
  refine W.cond rfl (fun hc10 => ?_) (fun hc10 => ?_)
  · skip
    have hne : l.length ≠ l2.length := fun h2 => by have h := hc10; rw [h2] at h; simp at h
    refine sSeq ?_
    refine W.region ?_
    refine OpsW.det (det_assign rfl) rfl ?_
    refine sNext ?_
    refine W.keep (F' := [(4, _)]) ⟨rfl, trivial⟩ ?_
    refine sRet ?_
    exact done1 Try.results16 (rv_tmp rfl) (congrArg Value.bool (decide_eq_false (fun h => hne (by rw [h]))).symm)
  · skip
    have hll : l.length = l2.length := by have h := hc10; simp at h; omega
    refine sSkip ?_
    refine sSeq ?_
    refine sSeq ?_
    refine W.region ?_
    refine OpsW.det (det_move rfl) rfl ?_
    refine OpsW.det (det_len u22 rfl) rfl ?_
    refine OpsW.det (det_move rfl) rfl ?_
    refine sNext ?_
    refine W.keep (F' := [(13, _), (12, _), (0, _), (1, _)]) ⟨rfl, rfl, rfl, rfl, trivial⟩ ?_
    refine sBlock ?_
    refine sLoop (σ := Nat) (fun i => [(13, .int .i64 (i : Nat)), (12, .int .i64 (l.length : Nat)), (0, .slice ad l.length cap), (1, .slice ad2 l2.length cap2)]) (fun i => []) (fun i => i ≤ l.length ∧ l.take i = l2.take i) (fun i => l.length - i) 0 ⟨Nat.zero_le _, rfl⟩ ⟨rfl, rfl, rfl, rfl, trivial⟩ (List.nil_sublist _) ?_
    rintro i ⟨hi, hI⟩
    refine sSeq ?_
    refine W.region ?_
    refine OpsW.det (det_lss rfl rfl) rfl ?_
    refine sNext ?_
    refine sSeq ?_
    refine W.cond rfl (fun hc14 => ?_) (fun hc14 => ?_)
    · skip
      have hlt : i < l.length := by have h := hc14; simp only [decide_eq_true_eq] at h; omega
      have hlt2 : i < l2.length := by omega
      obtain ⟨bk, o, cap', cs, e, fr, hv, hm, hcell⟩ := hB.at_ i hlt
      simp only [Value.slice.injEq] at hv
      obtain ⟨rfl, _, rfl⟩ := hv
      obtain ⟨bk2, o2, cap2', cs2, e2, fr2, hv2, hm2, hcell2⟩ := hB2.at_ i hlt2
      simp only [Value.slice.injEq] at hv2
      obtain ⟨rfl, _, rfl⟩ := hv2
      refine sSkip ?_
      refine sSeq ?_
      refine sBlock ?_
      refine sSeq ?_
      refine W.region ?_
      refine OpsW.det (det_move rfl) rfl ?_
      refine OpsW.det (det_assign rfl) rfl ?_
      refine sNext ?_
      refine W.keep (F' := [(5, _), (13, _), (12, _), (0, _), (1, _)]) ⟨rfl, rfl, rfl, rfl, rfl, trivial⟩ ?_
      refine sSeq ?_
      refine W.draw mixed 9 [[], [], [0, 1], [0, 1, 2], [], [], [4, 5], [4, 5, 6], [0, 1, 2, 3, 4, 5, 6, 7]] (cl_lt (by decide)) ?_
      refine HeadR.start (cl_lt (by decide)) ?_
      refine HeadR.det rfl (fun β hβ => (det_move rfl)) ?_
      refine HeadR.det rfl (fun β hβ => (det_move rfl)) ?_
      refine HeadR.det rfl (fun β hβ => (det_indexAddr_sl u22 sz5 rfl rfl ⟨by omega, by omega⟩)) ?_
      refine HeadR.det rfl (fun β hβ => (det_loadC_ro ty5 rfl hm (cells_u8 hcell))) ?_
      refine HeadR.det rfl (fun β hβ => (det_move rfl)) ?_
      refine HeadR.det rfl (fun β hβ => (det_move rfl)) ?_
      refine HeadR.det rfl (fun β hβ => (det_indexAddr_sl u22 sz5 rfl rfl ⟨by omega, by omega⟩)) ?_
      refine HeadR.det rfl (fun β hβ => (det_loadC_ro ty5 rfl hm2 (cells_u8 hcell2))) ?_
      refine HeadR.det rfl (fun β hβ => ((det_neq (a := (l[i] : Int)) (b := (l2[i] : Int)) rfl rfl))) ?_
      refine HeadR.done ⟨by kernel_rfl, fun β hβ => ?_⟩
      refine OpsW.norm (F' := [(16, _), (17, _), (18, _), (19, _), (20, _), (21, _), (22, _), (23, _), (24, _), (5, _), (13, _), (12, _), (0, _), (1, _)]) (H' := []) rfl rfl ?_
      refine sNext ?_
      refine W.keep (F' := [(24, _), (13, _), (12, _), (0, _), (1, _)]) ⟨rfl, rfl, rfl, rfl, rfl, trivial⟩ ?_
      refine W.cond rfl (fun hc24 => ?_) (fun hc24 => ?_)
      · skip
        refine sSeq ?_
        refine W.region ?_
        refine OpsW.det (det_assign rfl) rfl ?_
        refine sNext ?_
        refine W.keep (F' := [(4, _)]) ⟨rfl, trivial⟩ ?_
        refine sRet ?_
        refine retBlk ?_
        refine retLoop ?_
        refine retBlk ?_
        exact done1 Try.results16 (rv_tmp rfl) (congrArg Value.bool (decide_eq_false (fun h => by subst h; have h2 := hc24; simp at h2)).symm)
      · skip
        refine sSkip0 ?_
        refine bNext ?_
        refine W.keep (F' := [(13, _), (12, _), (0, _), (1, _)]) ⟨rfl, rfl, rfl, rfl, trivial⟩ ?_
        refine W.region ?_
        refine OpsW.det (det_addN (b := 1) rfl rfl (by omega)) rfl ?_
        refine OpsW.det (det_move rfl) rfl ?_
        refine sLast ?_
        exact rEnd (i + 1) ⟨hlt, take_stepN hlt hlt2 hI (by have h := hc24; simp at h; omega)⟩ ⟨rfl, rfl, rfl, rfl, trivial⟩ (List.nil_sublist _) (step_lt hlt)
    · skip
      have hi4 : i = l.length := by have h := hc14; simp only [decide_eq_false_iff_not] at h; omega
      subst hi4
      refine sExit ?_
      refine xLoop ?_
      refine xHere ?_
      refine W.keep (F' := []) trivial ?_
      refine sSeq ?_
      refine W.region ?_
      refine OpsW.det (det_assign rfl) rfl ?_
      refine sNext ?_
      refine sRet ?_
      exact done1 Try.results16 (rv_tmp rfl) (congrArg Value.bool (decide_eq_true (by have h := hI; rw [List.take_length, hll, List.take_length] at h; exact h)).symm)

end Go.Cu
