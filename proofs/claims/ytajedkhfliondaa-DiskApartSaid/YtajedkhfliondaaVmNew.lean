/-
  append as a new block, in regions that draw their order.
  Conditions: none; it is a library of lemmas over any program.
-/
import Derived.Test.YtajedkhfliondaaVmWhole
namespace Go.Vm
open Go Go.RowKit
section
variable {P : Program} {n : Nat} {K : List Nat} {G : Hp} {w0 : World} {F : Fr} {H H' : Hp} {ty : TypeId} {pos : String} {after : Array Edge} {x y : Operand} {d : Option Tmp} {g : Option (Nat × Bool)}
/-- append of some elements to a slice without room: a new block. -/
theorem new_append {t el s bytes : Nat} {zs : List Value} (T : TyS P t el s bytes zs) {b0 o0 b o m c : Nat} {cs news : List Value} {e : TypeId} {fr : Nat × Nat} (hx : ev F x = some (.slice (some ⟨b0, o0, none⟩) 0 0))
    (hy : ev F y = some (.slice (some ⟨b, o, none⟩) m c)) (hm : (b, Obj.cells cs.toArray e fr) ∈ H ∨ (b, Obj.cells cs.toArray e fr) ∈ G) (hl : news.length = m * s) (hnews : ∀ j u, news[j]? = some u → cs[o + j]? = some u)
    (h0 : 0 < m) (h63 : m ≤ maxLen) (hbytes : m * bytes ≤ 140737488355328) :
    New P K G w0 ⟨d, .call { callee := .builtin .append, args := #[x, y], argTypes := #[t, t] }, ty, pos, after, g⟩ F H (fun p => .slice (some ⟨p.1, 0, none⟩) m p.2.1)
      (fun p => [(p.1, blk (news ++ p.2.2) el)]) (fun p => (news ++ p.2.2).length = p.2.1 * s ∧ m ≤ p.2.1 ∧ p.2.1 ≤ maxLen) := by
  intro a w hs hb ho next Qx hn
  obtain ⟨i, z, hi, hz, hsz, hby, hzc⟩ := T.info
  subst hsz
  subst hby
  have hzs : z.cells.size = i.size := by rw [hzc]; simp [T.len]
  have hcell : ∀ j u, news[j]? = some u → w.cell? ((⟨b, o, none⟩ : Addr).add j) = some u := fun j u hj => by
    rw [add_off]
    rcases hm with hm | hm
    · rw [cell_blk (hb _ hm)]; exact hnews j u hj
    · rw [cell_blk (ho.look hm)]; exact hnews j u hj
  have hsmall : m ≤ 9223372036854775807 := by simp only [maxLen] at h63; omega
  have hr := run_append_grow (P := P) w t ty el i z T.und hi hz ⟨b0, o0, none⟩ 0 0 [] (by simp) (fun j u hj => by simp at hj) ⟨b, o, none⟩ m c news hl hcell (by omega) (by omega) (growslice_fits (by omega) (by rw [Nat.zero_add]; exact hbytes))
  simp only [Nat.zero_add] at hr
  have hge := grownCap_ge w m 0 el
  have hcm := grownCap_le_maxLen w m 0 el h63
  generalize hcap : grownCap w m 0 el = cap at hr hge hcm
  have hrun : (execOp a.eval ⟨d, .call { callee := .builtin .append, args := #[x, y], argTypes := #[t, t] }, ty, pos, after, g⟩).run P w = .ok (.value (.slice (some ⟨w.heap.size, 0, none⟩) m cap)) (w.drew.alloc (.cells (([] : List Value).toArray ++ news.toArray ++ Builtin.zeroCells z.cells (cap - m)) el)) := by
    simp [execOp, resolve, hs.ev hx, hs.ev hy, invoke, builtin, hr]
  unfold Oper.wp
  rw [hrun]
  refine hn (w.heap.size, cap, (Builtin.zeroCells z.cells (cap - m)).toList) _ ⟨?_, hge, hcm⟩ (((Below.refl _ _).drew).alloc (Nat.le_refl _) _) ?_ (by simp) (by simp)
  · simp only [List.length_append, Array.length_toList, size_zeroCells, hzs, hl]
    rw [← Nat.add_mul]
    congr 1
    omega
  · intro p hp
    simp only [List.mem_singleton] at hp
    subst hp
    show (w.drew.heap.push _)[w.heap.size]? = some _
    have : w.drew.heap.size = w.heap.size := rfl
    rw [← this, Array.getElem?_push_size]
    congr 2
    apply Array.ext'
    simp
/-- append of nothing to a slice that is empty. -/
theorem new_append0 {t el s bytes : Nat} {zs : List Value} (T : TyS P t el s bytes zs) {b0 : Nat} {ad' : Option Addr} {m c : Nat} (hx : ev F x = some (.slice (some ⟨b0, 0, none⟩) 0 0)) (hy : ev F y = some (.slice ad' m c)) (hm : m = 0) :
    New P K G w0 ⟨d, .call { callee := .builtin .append, args := #[x, y], argTypes := #[t, t] }, ty, pos, after, g⟩ F H (fun p => .slice (some ⟨p.1, 0, none⟩) 0 0) (fun _ => []) (fun _ => True) := by
  subst hm
  intro a w hs hb ho next Qx hn
  obtain ⟨i, z, hi, hz, hsz, hby, hzc⟩ := T.info
  have hr : (Builtin.append_ #[t, t] ty #[.slice (some ⟨b0, 0, none⟩) 0 0, .slice ad' 0 c]).run P w = .ok (.slice (some ⟨b0, 0, none⟩) 0 0) w := by
    cases ad' <;> simp [Builtin.append_, run_underlying T.und, sizeOf, typeInfo, hi, Builtin.lenOf, Builtin.firstCells, loadCells, loadCellsFrom, storeCells]
  have hrun : (execOp a.eval ⟨d, .call { callee := .builtin .append, args := #[x, y], argTypes := #[t, t] }, ty, pos, after, g⟩).run P w = .ok (.value (.slice (some ⟨b0, 0, none⟩) 0 0)) w := by
    simp [execOp, resolve, hs.ev hx, hs.ev hy, invoke, builtin, hr]
  unfold Oper.wp
  rw [hrun]
  exact hn (b0, 0, []) w trivial (Below.refl _ _) (fun p hp => by cases hp) List.nodup_nil (fun p hp => by cases hp)
/-- .. said with the length of what is appended. -/
theorem new_append0m {t el s bytes : Nat} {zs : List Value} (T : TyS P t el s bytes zs) {b0 : Nat} {ad' : Option Addr} {m c : Nat} (hx : ev F x = some (.slice (some ⟨b0, 0, none⟩) 0 0)) (hy : ev F y = some (.slice ad' m c)) (hm : m = 0) :
    New P K G w0 ⟨d, .call { callee := .builtin .append, args := #[x, y], argTypes := #[t, t] }, ty, pos, after, g⟩ F H (fun p => .slice (some ⟨p.1, 0, none⟩) m 0) (fun _ => []) (fun _ => True) := by
  subst hm
  exact new_append0 T hx hy rfl
/-- Blocks to the front. -/
theorem OpsW.front1 {n : Nat} {ops : Array Oper} {l : List Oper} {R : Fr → Hp → Prop} {a b : Nat × Obj} (h : OpsW P n K G w0 ops l R F (b :: a :: H)) : OpsW P n K G w0 ops l R F (a :: b :: H) := OpsW.perm (.swap _ _ _) h
theorem OpsW.front2 {n : Nat} {ops : Array Oper} {l : List Oper} {R : Fr → Hp → Prop} {a b c : Nat × Obj} (h : OpsW P n K G w0 ops l R F (c :: a :: b :: H)) : OpsW P n K G w0 ops l R F (a :: b :: c :: H) := OpsW.perm ((List.Perm.swap _ _ _).trans ((List.Perm.swap _ _ _).cons _)) h
theorem OpsW.front3 {n : Nat} {ops : Array Oper} {l : List Oper} {R : Fr → Hp → Prop} {a b c d : Nat × Obj} (h : OpsW P n K G w0 ops l R F (d :: a :: b :: c :: H)) : OpsW P n K G w0 ops l R F (a :: b :: c :: d :: H) := OpsW.perm ((List.Perm.swap _ _ _).trans (((List.Perm.swap _ _ _).trans ((List.Perm.swap _ _ _).cons _)).cons _)) h
/-- A slice of the function's own that is not empty. -/
theorem isSl_pos {el s : Nat} {v : Value} {len : Nat} {hp : Hp} {xs : List Value} (h : IsSl el s v len hp xs) (h0 : 0 < len) : ∃ (b cap : Nat) (spare : List Value), v = .slice (some ⟨b, 0, none⟩) len cap ∧ hp = [(b, blk (xs ++ spare) el)] ∧ (xs ++ spare).length = cap * s ∧ cap ≤ maxLen := by
  cases h with
  | nil => omega
  | at_ h1 h2 h3 => exact ⟨_, _, _, rfl, rfl, h2, h3⟩
end
/-! ### Cuts: what holds behind a piece of code, said once -/
section
variable {P : Program} {n : Nat} {K : List Nat} {G : Hp} {w0 : World} {Q : Exit → Fr → Hp → Prop} {F : Fr} {H : Hp}
/-- What a piece of code has to leave; Q: where it leaves by another way. -/
def cutEnd {σ : Type} (FI : σ → Fr) (HI : σ → Hp) (ok : σ → Prop) (Q : Exit → Fr → Hp → Prop) : Exit → Fr → Hp → Prop
  | .normal, F, H => ∃ s, ok s ∧ Sub (FI s) F ∧ (HI s).Sublist H
  | e, F, H => Q e F H
theorem stk_else {r : List Code} {e : Exit} (he : e ≠ .normal) (h : Q e F H) : stk P n K G w0 r Q e F H := by
  cases r with
  | nil => exact h
  | cons c r => cases e <;> first | exact absurd rfl he | exact h
theorem sCut {σ : Type} (FI : σ → Fr) (HI : σ → Hp) (ok : σ → Prop) {x y : Code} {r : List Code} (h1 : W P n K G w0 x (stk P n K G w0 [] (cutEnd FI HI ok Q)) F H)
    (h2 : ∀ s, ok s → W P n K G w0 y (stk P n K G w0 r Q) (FI s) (HI s)) : W P n K G w0 x (stk P n K G w0 (y :: r) Q) F H :=
  h1.mono fun e F' H' q => by
    cases e with
    | normal =>
      obtain ⟨s, hs, hF, hH⟩ := q
      exact W.sub hF hH (h2 s hs)
    | _ => exact stk_else (by simp) q
/-- .. of two pieces. -/
theorem sCut2 {σ : Type} (FI : σ → Fr) (HI : σ → Hp) (ok : σ → Prop) {x z y : Code} {r : List Code} (h1 : W P n K G w0 x (stk P n K G w0 [z] (cutEnd FI HI ok Q)) F H)
    (h2 : ∀ s, ok s → W P n K G w0 y (stk P n K G w0 r Q) (FI s) (HI s)) : W P n K G w0 x (stk P n K G w0 (z :: y :: r) Q) F H :=
  h1.mono fun e F' H' q => by
    cases e with
    | normal => exact sCut FI HI ok q h2
    | _ => exact stk_else (by simp) q
theorem cutRet {σ : Type} {FI : σ → Fr} {HI : σ → Hp} {ok : σ → Prop} (h : Q .ret F H) : cutEnd FI HI ok Q .ret F H := h
theorem cutExit {σ : Type} {FI : σ → Fr} {HI : σ → Hp} {ok : σ → Prop} {id : Nat} (h : Q (.exit id) F H) : cutEnd FI HI ok Q (.exit id) F H := h
theorem cutOk {σ : Type} {FI : σ → Fr} {HI : σ → Hp} {ok : σ → Prop} (s : σ) (h1 : ok s) (h2 : Sub (FI s) F) (h3 : (HI s).Sublist H) : cutEnd FI HI ok Q .normal F H := ⟨s, h1, h2, h3⟩
end
/-! ### Cells of things that lie one behind the other -/
theorem dropN_app : ∀ (xs r : List Value) (k : Nat), dropN (k + xs.length) (xs ++ r) = dropN k r
  | [], _, _ => rfl
  | x :: xs, r, k => dropN_app xs r k
theorem takeN_app : ∀ (xs r : List Value), takeN xs.length (xs ++ r) = some xs
  | [], _ => rfl
  | x :: xs, r => by
    show takeN (xs.length + 1) (x :: (xs ++ r)) = _
    simp only [takeN, takeN_app xs r]
theorem flat_len {α : Type} {f : α → List Value} {s : Nat} (hf : ∀ a, (f a).length = s) : ∀ L : List α, ((L.map f).flatten).length = L.length * s
  | [] => by simp
  | a :: L => by rw [List.map_cons, List.flatten_cons, List.length_append, hf, flat_len hf L, List.length_cons, Nat.succ_mul, Nat.add_comm]
theorem flat_cut {α : Type} {f : α → List Value} {s : Nat} (hf : ∀ a, (f a).length = s) (r : List Value) : ∀ {L : List α} {i : Nat} (h : i < L.length), cut (i * s) s ((L.map f).flatten ++ r) = some (f L[i])
  | a :: L, 0, h => by
    unfold cut
    rw [Nat.zero_mul, List.map_cons, List.flatten_cons, List.append_assoc]
    show takeN s (f a ++ _) = some (f a)
    have := takeN_app (f a) ((L.map f).flatten ++ r)
    rwa [hf] at this
  | a :: L, i + 1, h => by
    have ih := flat_cut hf r (L := L) (i := i) (Nat.lt_of_succ_lt_succ h)
    unfold cut at ih ⊢
    have := dropN_app (f a) ((L.map f).flatten ++ r) (i * s)
    rw [hf] at this
    rw [Nat.succ_mul, List.map_cons, List.flatten_cons, List.append_assoc, this, ih]
    rfl
theorem flat_snoc {α : Type} (f : α → List Value) (L : List α) (a : α) : ((L ++ [a]).map f).flatten = (L.map f).flatten ++ f a := by simp
end Go.Vm
