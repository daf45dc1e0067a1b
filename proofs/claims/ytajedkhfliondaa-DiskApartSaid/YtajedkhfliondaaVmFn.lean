/-
  Functions, results, slices and calls in the logic of partial frames and heaps.
  Conditions: none; it is a library of lemmas over any program.
-/
import Derived.Test.YtajedkhfliondaaVmDraw
import Derived.Carry
import Derived.IntWalk
namespace Go.Vm
open Go Go.RowKit

section
variable {P : Program} {n : Nat} {K : List Nat} {G : Hp} {w0 : World}

def argF : Nat → List Value → Fr
  | _, [] => []
  | i, v :: r => (i, v) :: argF (i + 1) r

theorem look_argF : ∀ {l : List Value} {i t : Nat} {v : Value}, look (argF i l) t = some v → i ≤ t ∧ l[t - i]? = some v
  | [], i, t, v, h => by cases h
  | u :: r, i, t, v, h => by
    rw [argF, look_eq] at h
    by_cases hi : i = t
    · subst hi; simp at h ⊢; exact h
    · simp [hi] at h
      obtain ⟨h1, h2⟩ := look_argF h
      refine ⟨by omega, ?_⟩
      rw [show t - i = (t - (i + 1)) + 1 by omega]
      simpa using h2

/-- How a function may end: its results are v, and S holds of them and of the heap. -/
def Done (P : Program) (n : Nat) (K : List Nat) (G : Hp) (w0 : World) (fn : Func) (S : Value → Hp → Prop) : Exit → Fr → Hp → Prop
  | .normal, F, H => ∃ v, (∀ a w, Rep n K G w0 F H a w → (results fn a.tmps).run P w = .ok v w) ∧ S v H
  | .ret, F, H => ∃ v, (∀ a w, Rep n K G w0 F H a w → (results fn a.tmps).run P w = .ok v w) ∧ S v H
  | _, _, _ => False

theorem calls_of_W {f : FuncId} {fn : Func} {code : Code} {args : List Value} {w : World} {S : Value → Hp → Prop} {H0 : Hp} (hf : P.funcs[f]? = some fn) (hb : fn.body = some code) (hn : fn.ntmps = n) (hs : args.length ≤ n)
    (hG : ∀ p ∈ G, w.heap[p.1]? = some p.2 ∧ p.1 ∉ K) (hH : Blocks H0 w) (hd : (H0.map (·.1)).Nodup) (hm : ∀ p ∈ H0, p.1 ∈ K)
    (h : W P n K G w code (Done P n K G w fn S) (argF 0 args) H0) :
    Calls P f args.toArray w fun e w' => ∃ v H', e = .returned v ∧ S v H' ∧ Blocks H' w' ∧ (H'.map (·.1)).Nodup ∧ (∀ p ∈ H', p.1 ∈ K ∨ w.heap.size ≤ p.1) ∧ Old K G w w' := by
  subst hn
  refine calls_of_wp hf hb ?_
  refine wp_mono (h _ w ⟨by simp; omega, rfl, ?_, hH, hd, fun p hp => .inl (hm p hp), ⟨rfl, rfl, rfl, Nat.le_refl _, fun _ _ _ => rfl, hG⟩⟩) ?_
  · intro t v ht
    have := (look_argF ht).2
    simp only [Nat.sub_zero] at this
    have hlt : t < args.length := (List.getElem?_eq_some_iff.1 this).1
    simp [Array.getElem?_append, hlt]
    simpa [hlt] using this
  · rintro e a' w' ⟨F', H', q, r⟩
    cases e with
    | normal => obtain ⟨v, h1, h2⟩ := q; exact ⟨r.defers, v, h1 a' w' r, v, H', rfl, h2, r.blocks, r.nodup, r.mine, r.old⟩
    | ret => obtain ⟨v, h1, h2⟩ := q; exact ⟨r.defers, v, h1 a' w' r, v, H', rfl, h2, r.blocks, r.nodup, r.mine, r.old⟩
    | _ => exact q.elim

theorem Old.toBelow {G : Hp} {w w' : World} (h : Old [] G w w') : Below w.heap.size w w' := ⟨h.os, h.tape, h.output, h.size, fun k hk => h.old k hk (by simp)⟩

/-- A function that writes nothing that was there and hands back a value of its own. -/
theorem pure_of_W {f : FuncId} {fn : Func} {code : Code} {args : List Value} {w : World} {v : Value} (hf : P.funcs[f]? = some fn) (hb : fn.body = some code) (hn : fn.ntmps = n) (hs : args.length ≤ n)
    (hG : Blocks G w) (h : W P n [] G w code (Done P n [] G w fn fun v' _ => v' = v) (argF 0 args) []) : Pure P f args.toArray w v :=
  (calls_of_W hf hb hn hs (fun p hp => ⟨hG p hp, by simp⟩) (fun _ h => by cases h) (by simp) (fun _ h => by cases h) h).mono fun e w' ⟨v', H', he, hv, _, _, _, ho⟩ => ⟨by rw [he, hv], ho.toBelow⟩

/-- The call hands back 'mk p' with the new blocks 'ob p', for some p that is ok, and writes nothing that was there. -/
def Makes (P : Program) (f : FuncId) (args : Array Value) (w : World) (mk : Prm → Value) (ob : Prm → Hp) (ok : Prm → Prop) : Prop :=
  Calls P f args w fun e w' => ∃ p, ok p ∧ e = .returned (mk p) ∧ Blocks (ob p) w' ∧ ((ob p).map (·.1)).Nodup ∧ (∀ q ∈ ob p, w.heap.size ≤ q.1) ∧ Below w.heap.size w w'

theorem makes_of_W {f : FuncId} {fn : Func} {code : Code} {args : List Value} {w : World} {mk : Prm → Value} {ob : Prm → Hp} {ok : Prm → Prop} (hf : P.funcs[f]? = some fn) (hb : fn.body = some code) (hn : fn.ntmps = n) (hs : args.length ≤ n)
    (hG : Blocks G w) (h : W P n [] G w code (Done P n [] G w fn fun v' H' => ∃ p, ok p ∧ v' = mk p ∧ (ob p).Sublist H') (argF 0 args) []) : Makes P f args.toArray w mk ob ok :=
  (calls_of_W hf hb hn hs (fun p hp => ⟨hG p hp, by simp⟩) (fun _ h => by cases h) (by simp) (fun _ h => by cases h) h).mono fun e w' ⟨v', H', he, ⟨p, hp, hv, hsub⟩, h1, h2, h3, ho⟩ =>
    ⟨p, hp, by rw [he, hv], fun q hq => h1 q (hsub.subset hq), (hsub.map _).nodup h2, fun q hq => (h3 q (hsub.subset hq)).resolve_left (by simp), ho.toBelow⟩

/-! ### Results -/
def rvRun (tmps : Array Value) : ResultVar → Sem Value
  | .tmp t => pure (tmps.getD t undef)
  | .cell a t => do loadVar t (← asAddr (tmps.getD a undef))
def RV (P : Program) (n : Nat) (K : List Nat) (G : Hp) (w0 : World) (r : ResultVar) (F : Fr) (H : Hp) (v : Value) : Prop := ∀ a w, Rep n K G w0 F H a w → (rvRun a.tmps r).run P w = .ok v w

variable {F : Fr} {H : Hp} {v : Value}

theorem rv_tmp {t : Tmp} (h : look F t = some v) : RV P n K G w0 (.tmp t) F H v := fun a w r => by
  have := r.slots t v h
  simp [rvRun, this]
theorem rv_cellA {t : Tmp} {ty s b o : Nat} {cs l : List Value} {e : TypeId} {fr : Nat × Nat} (ht : TyA P ty s) (hx : look F t = some (.pointer (some ⟨b, o, none⟩))) (hm : (b, Obj.cells cs.toArray e fr) ∈ H) (hl : cut o s cs = some l) :
    RV P n K G w0 (.cell t ty) F H (.agg l.toArray) := fun a w r => by
  have := r.slots t _ hx
  simp only [rvRun, Sem.run_bind, Array.getD_eq_getD_getElem?, this, Option.getD_some, asAddr, Sem.run_pure, Result.andThen_ok, run_loadA ht (r.blocks _ hm) hl]
theorem rv_cellC {t : Tmp} {ty b o : Nat} {cs : List Value} {e : TypeId} {fr : Nat × Nat} (ht : TyC P ty) (hx : look F t = some (.pointer (some ⟨b, o, none⟩))) (hm : (b, Obj.cells cs.toArray e fr) ∈ H) (hl : cs[o]? = some v) :
    RV P n K G w0 (.cell t ty) F H v := fun a w r => by
  have := r.slots t _ hx
  simp only [rvRun, Sem.run_bind, Array.getD_eq_getD_getElem?, this, Option.getD_some, asAddr, Sem.run_pure, Result.andThen_ok, run_loadC ht (r.blocks _ hm) hl]

theorem results_eq (fn : Func) (tmps : Array Value) : results fn tmps = (do
    let vs ← fn.results.mapM (rvRun tmps)
    pure (if h : vs.size = 1 then vs[0] else .tuple vs)) := by
  unfold results
  congr 1

variable {fn : Func} {S : Value → Hp → Prop}
theorem done1 {r1 : ResultVar} (hr : fn.results = #[r1]) (h1 : RV P n K G w0 r1 F H v) (hS : S v H) : Done P n K G w0 fn S .ret F H :=
  ⟨v, fun a w r => by rw [results_eq, hr]; simp [h1 a w r], hS⟩
theorem done2 {r1 r2 : ResultVar} {v1 v2 : Value} (hr : fn.results = #[r1, r2]) (h1 : RV P n K G w0 r1 F H v1) (h2 : RV P n K G w0 r2 F H v2) (hS : S (.tuple #[v1, v2]) H) : Done P n K G w0 fn S .ret F H :=
  ⟨.tuple #[v1, v2], fun a w r => by rw [results_eq, hr]; simp [h1 a w r, h2 a w r], hS⟩
theorem done3 {r1 r2 r3 : ResultVar} {v1 v2 v3 : Value} (hr : fn.results = #[r1, r2, r3]) (h1 : RV P n K G w0 r1 F H v1) (h2 : RV P n K G w0 r2 F H v2) (h3 : RV P n K G w0 r3 F H v3) (hS : S (.tuple #[v1, v2, v3]) H) : Done P n K G w0 fn S .ret F H :=
  ⟨.tuple #[v1, v2, v3], fun a w r => by rw [results_eq, hr]; simp [h1 a w r, h2 a w r, h3 a w r], hS⟩
theorem done0 (hr : fn.results = #[]) (hS : S (.tuple #[]) H) : Done P n K G w0 fn S .normal F H :=
  ⟨.tuple #[], fun a w r => by rw [results_eq, hr]; simp, hS⟩
theorem done0r (hr : fn.results = #[]) (hS : S (.tuple #[]) H) : Done P n K G w0 fn S .ret F H :=
  ⟨.tuple #[], fun a w r => by rw [results_eq, hr]; simp, hS⟩

variable {d : Option Tmp} {ty : TypeId} {pos : String} {after : Array Edge} {g : Option (Nat × Bool)} {x y : Operand}

/-! ### Calls -/
/-- A call through a function value. -/
theorem det_callv {f : FuncId} {t : Operand} {xs : List Operand} {ats : Array TypeId} {vs caps : List Value} (he : Enters P f) (ht : ev F t = some (.func (.func f) #[] caps.toArray)) (hx : evs F xs = some vs)
    (h : ∀ w, Blocks H w → Old K G w0 w → Pure P f (vs ++ caps).toArray w v) :
    Det P K G w0 ⟨d, .call { callee := .value t, args := xs.toArray, argTypes := ats }, ty, pos, after, g⟩ F H v :=
  fun a w hs hb ho next Qx hn => by
    have hm := evs_map hs hx
    unfold Oper.wp
    have : (execOp a.eval ⟨d, .call { callee := .value t, args := xs.toArray, argTypes := ats }, ty, pos, after, g⟩).run P w = .ok (.enter f (vs ++ caps).toArray) w := by
      simp [execOp, resolve, Deferred.ofValue, hs.ev ht, invoke, hm]; exact he _ _
    rw [this]
    refine (h w hb ho).mono ?_
    rintro e w' ⟨rfl, hw⟩
    exact hn w' hw

theorem new_call {f : FuncId} {xs : List Operand} {ats : Array TypeId} {vs : List Value} {mk : Prm → Value} {ob : Prm → Hp} {ok : Prm → Prop} (he : Enters P f) (hx : evs F xs = some vs)
    (h : ∀ w, Blocks H w → Old K G w0 w → Makes P f vs.toArray w mk ob ok) :
    New P K G w0 ⟨d, .call { callee := .value (.func f), args := xs.toArray, argTypes := ats }, ty, pos, after, g⟩ F H mk ob ok :=
  fun a w hs hb ho next Qx hn => by
    have hm := evs_map hs hx
    unfold Oper.wp
    have : (execOp a.eval ⟨d, .call { callee := .value (.func f), args := xs.toArray, argTypes := ats }, ty, pos, after, g⟩).run P w = .ok (.enter f vs.toArray) w := by
      simp [execOp, resolve, Deferred.ofValue, Act.eval, invoke, hm]; exact he _ _
    rw [this]
    refine (h w hb ho).mono ?_
    rintro e w' ⟨p, hp, rfl, h1, h2, h3, h4⟩
    exact hn p w' hp h4 h1 h2 h3

/-- A call that may write blocks: of the heap H it takes Hf, and leaves H'. -/
def Changes (P : Program) (f : FuncId) (args : Array Value) (w : World) (Hf : Hp) (S : Value → Hp → Prop) : Prop :=
  Calls P f args w fun e w' => ∃ v H', e = .returned v ∧ S v H' ∧ Blocks H' w' ∧ (H'.map (·.1)).Nodup ∧ (∀ p ∈ H', p.1 ∈ Hf.map (·.1) ∨ w.heap.size ≤ p.1) ∧ Old (Hf.map (·.1)) [] w w'

theorem changes_of_W {f : FuncId} {code : Code} {args : List Value} {w : World} {Hf : Hp} (hf : P.funcs[f]? = some fn) (hb : fn.body = some code) (hn : fn.ntmps = n) (hs : args.length ≤ n)
    (hG : ∀ p ∈ G, w.heap[p.1]? = some p.2 ∧ p.1 ∉ Hf.map (·.1)) (hH : Blocks Hf w) (hd : (Hf.map (·.1)).Nodup)
    (h : W P n (Hf.map (·.1)) G w code (Done P n (Hf.map (·.1)) G w fn S) (argF 0 args) Hf) : Changes P f args.toArray w Hf S :=
  (calls_of_W hf hb hn hs hG hH hd (fun p hp => List.mem_map.2 ⟨p, hp, rfl⟩) h).mono fun e w' ⟨v', H', he, hv, h1, h2, h3, ho⟩ =>
    ⟨v', H', he, hv, h1, h2, h3, ⟨ho.os, ho.tape, ho.output, ho.size, ho.old, by simp⟩⟩

theorem Rep.changed {Hf H' : Hp} {a : Act} {w w' : World} (r : Rep n K G w0 F (Hf ++ H) a w) (h1 : Blocks H' w') (h2 : (H'.map (·.1)).Nodup) (h3 : ∀ p ∈ H', p.1 ∈ Hf.map (·.1) ∨ w.heap.size ≤ p.1)
    (ho : Old (Hf.map (·.1)) [] w w') : Rep n K G w0 F (H' ++ H) a w' := by
  have hnd := r.nodup
  rw [List.map_append, List.nodup_append] at hnd
  have hlt : ∀ p ∈ H, p.1 < w.heap.size := fun p hp => lt_of_some (r.blocks p (List.mem_append_right _ hp))
  have hap : ∀ p ∈ H, p.1 ∉ Hf.map (·.1) := fun p hp hm => hnd.2.2 p.1 hm p.1 (List.mem_map.2 ⟨p, hp, rfl⟩) rfl
  refine ⟨r.size, r.defers, r.slots, ?_, ?_, ?_, ?_⟩
  · intro p hp
    rcases List.mem_append.1 hp with hp | hp
    · exact h1 p hp
    · rw [ho.old p.1 (hlt p hp) (hap p hp)]; exact r.blocks p (List.mem_append_right _ hp)
  · rw [List.map_append, List.nodup_append]
    refine ⟨h2, hnd.2.1, fun x hx y hy hxy => ?_⟩
    obtain ⟨p, hp, rfl⟩ := List.mem_map.1 hx
    obtain ⟨q, hq, rfl⟩ := List.mem_map.1 hy
    rcases h3 p hp with h | h
    · exact hap q hq (hxy ▸ h)
    · have := hlt q hq; omega
  · intro p hp
    rcases List.mem_append.1 hp with hp | hp
    · rcases h3 p hp with h | h
      · obtain ⟨q, hq, he⟩ := List.mem_map.1 h
        rw [← he]; exact r.mine q (List.mem_append_left _ hq)
      · exact .inr (Nat.le_trans r.old.size h)
    · exact r.mine p (List.mem_append_right _ hp)
  · refine ⟨ho.os.trans r.old.os, ho.tape.trans r.old.tape, ho.output.trans r.old.output, Nat.le_trans r.old.size ho.size, fun i hi hk => ?_, r.old.ro⟩
    rw [ho.old i (Nat.lt_of_lt_of_le hi r.old.size) ?_]
    · exact r.old.old i hi hk
    · intro hm
      obtain ⟨q, hq, he⟩ := List.mem_map.1 hm
      rcases r.mine q (List.mem_append_left _ hq) with h | h
      · exact hk (he ▸ h)
      · omega

theorem OpsW.change {ops : Array Oper} {rest : List Oper} {dd : Nat} {f : FuncId} {xs : List Operand} {ats : Array TypeId} {vs : List Value} {R : Fr → Hp → Prop} {Hf : Hp} (he : Enters P f) (hx : evs F xs = some vs)
    (hc : ∀ w, Blocks (Hf ++ H) w → ((Hf ++ H).map (·.1)).Nodup → Old K G w0 w → (∀ p ∈ Hf, p.1 ∈ K ∨ w0.heap.size ≤ p.1) → Changes P f vs.toArray w Hf S) (hd : Nat.blt dd n = true)
    (h : ∀ v H', S v H' → OpsW P n K G w0 ops rest R ((dd, v) :: F) (H' ++ H)) :
    OpsW P n K G w0 ops (⟨some dd, .call { callee := .value (.func f), args := xs.toArray, argTypes := ats }, ty, pos, after, none⟩ :: rest) R F (Hf ++ H) :=
  fun a w Qx r hq => wpList_any (by
    have hm := evs_map r.slots hx
    unfold Oper.wp
    have : (execOp a.eval ⟨some dd, .call { callee := .value (.func f), args := xs.toArray, argTypes := ats }, ty, pos, after, none⟩).run P w = .ok (.enter f vs.toArray) w := by
      simp [execOp, resolve, Deferred.ofValue, Act.eval, invoke, hm]; exact he _ _
    rw [this]
    refine (hc w r.blocks r.nodup r.old (fun p hp => r.mine p (List.mem_append_left _ hp))).mono ?_
    rintro e w' ⟨v, H', rfl, hS, h1, h2, h3, ho⟩
    exact h v H' hS _ _ _ ((r.changed h1 h2 h3 ho).put (of_decide_eq_true (by simpa using hd))) hq)

theorem OpsW.perm {ops : Array Oper} {l : List Oper} {R : Fr → Hp → Prop} {H' : Hp} (hp : H'.Perm H) (h : OpsW P n K G w0 ops l R F H') : OpsW P n K G w0 ops l R F H :=
  fun a w Qx r hq => h a w Qx (r.perm hp) hq
theorem OpsW.sub {ops : Array Oper} {l : List Oper} {R : Fr → Hp → Prop} {F' : Fr} {H' : Hp} (hF : Sub F' F) (hp : H'.Sublist H) (h : OpsW P n K G w0 ops l R F' H') : OpsW P n K G w0 ops l R F H :=
  fun a w Qx r hq => h a w Qx (r.sub hF hp) hq
theorem OpsW.keep {ops : Array Oper} {l : List Oper} {R : Fr → Hp → Prop} {F' : Fr} (hF : Sub F' F) (h : OpsW P n K G w0 ops l R F' H) : OpsW P n K G w0 ops l R F H :=
  fun a w Qx r hq => h a w Qx (r.sub hF (List.Sublist.refl _)) hq
/-- What the frames and heaps that are there say may be used. -/
theorem OpsW.facts {ops : Array Oper} {l : List Oper} {R : Fr → Hp → Prop} (h : (H.map (·.1)).Nodup → (∀ p ∈ H, p.1 ∈ K ∨ w0.heap.size ≤ p.1) → OpsW P n K G w0 ops l R F H) : OpsW P n K G w0 ops l R F H :=
  fun a w Qx r hq => h r.nodup r.mine a w Qx r hq

/-! ### Slices -/
structure TyS (P : Program) (t el s bytes : Nat) (zs : List Value) : Prop where
  und : P.underlying t = some (.slice el)
  size : sizeIn P el = some s
  bytes : (P.info? el).map (·.bytes) = some bytes
  zero : ∃ z, (P.info? el).bind (·.zero) = some z ∧ z.cells = zs.toArray
  len : zs.length = s
  pos : 0 < s

theorem det_slice {t el s : Nat} {b o len cap l h : Nat} {lo hi : Option Operand} (hu : P.underlying t = some (.slice el)) (hs0 : sizeIn P el = some s) (hx : ev F x = some (.slice (some ⟨b, o, none⟩) len cap))
    (hlo : match lo with | none => l = 0 | some z => ∃ k, ev F z = some (.int k l)) (hhi : match hi with | none => h = len | some z => ∃ k, ev F z = some (.int k h)) (h1 : l ≤ h) (h2 : h ≤ cap) (hlen : len ≤ cap) :
    Det P K G w0 ⟨d, .slice t x lo hi none, ty, pos, after, g⟩ F H (.slice (some ⟨b, if cap = l then o else o + l * s, none⟩) (h - l) (cap - l)) :=
  det_run fun a w hs _ _ => by
    have key : (Instr.sliceAt t (.slice (some ⟨b, o, none⟩) len cap) (lo.map a.eval) (hi.map a.eval) none).run P w = .ok (.slice (some ⟨b, if cap = l then o else o + l * s, none⟩) (h - l) (cap - l)) w := by
      have e1 : ∀ z k, ev F z = some (.int k (l : Int)) → a.eval z = .int k l := fun z k hz => hs.ev hz
      have e2 : ∀ z k, ev F z = some (.int k (h : Int)) → a.eval z = .int k h := fun z k hz => hs.ev hz
      cases lo with
      | none =>
        subst hlo
        cases hi with
        | none => subst hhi; simp [Instr.sliceAt, Instr.slice, run_underlying hu, Instr.sliceBounds, run_sizeOf hs0, add_off]
        | some z =>
          obtain ⟨k, hk⟩ := hhi
          simp [Instr.sliceAt, Instr.slice, run_underlying hu, Instr.sliceBounds, Instr.sliceBound, asIntOf, run_sizeOf hs0, e2 z k hk, h2, add_off]
      | some z =>
        obtain ⟨k, hk⟩ := hlo
        cases hi with
        | none =>
          subst hhi
          simp [Instr.sliceAt, Instr.slice, run_underlying hu, Instr.sliceBounds, Instr.sliceBound, asIntOf, run_sizeOf hs0, e1 z k hk, h1, add_off]
          split <;> rfl
        | some z' =>
          obtain ⟨k', hk'⟩ := hhi
          simp [Instr.sliceAt, Instr.slice, run_underlying hu, Instr.sliceBounds, Instr.sliceBound, asIntOf, run_sizeOf hs0, e1 z k hk, e2 z' k' hk', h1, h2, add_off]
          split <;> rfl
    simp [execOp, hs.ev hx, key]

/-- A slice of an array behind an address. -/
theorem det_sliceArr {t el s : Nat} {b o len l h : Nat} {lo hi : Option Operand} (hu : P.underlying t = some (.array len el)) (hs0 : sizeIn P el = some s) (hx : ev F x = some (.pointer (some ⟨b, o, none⟩)))
    (hlo : match lo with | none => l = 0 | some z => ∃ k, ev F z = some (.int k l)) (hhi : match hi with | none => h = len | some z => ∃ k, ev F z = some (.int k h)) (h1 : l ≤ h) (h2 : h ≤ len) :
    Det P K G w0 ⟨d, .slice t x lo hi none, ty, pos, after, g⟩ F H (.slice (some ⟨b, if len = l then o else o + l * s, none⟩) (h - l) (len - l)) :=
  det_run fun a w hs _ _ => by
    have key : (Instr.sliceAt t (.pointer (some ⟨b, o, none⟩)) (lo.map a.eval) (hi.map a.eval) none).run P w = .ok (.slice (some ⟨b, if len = l then o else o + l * s, none⟩) (h - l) (len - l)) w := by
      have e1 : ∀ z k, ev F z = some (.int k (l : Int)) → a.eval z = .int k l := fun z k hz => hs.ev hz
      have e2 : ∀ z k, ev F z = some (.int k (h : Int)) → a.eval z = .int k h := fun z k hz => hs.ev hz
      cases lo with
      | none =>
        subst hlo
        cases hi with
        | none => subst hhi; simp [Instr.sliceAt, run_underlying hu, Instr.sureAddr, Instr.sliceBounds, run_sizeOf hs0, add_off]
        | some z =>
          obtain ⟨k, hk⟩ := hhi
          simp [Instr.sliceAt, run_underlying hu, Instr.sureAddr, Instr.sliceBounds, Instr.sliceBound, asIntOf, run_sizeOf hs0, e2 z k hk, h2, add_off]
      | some z =>
        obtain ⟨k, hk⟩ := hlo
        cases hi with
        | none =>
          subst hhi
          simp [Instr.sliceAt, run_underlying hu, Instr.sureAddr, Instr.sliceBounds, Instr.sliceBound, asIntOf, run_sizeOf hs0, e1 z k hk, h1, add_off]
          split <;> rfl
        | some z' =>
          obtain ⟨k', hk'⟩ := hhi
          simp [Instr.sliceAt, run_underlying hu, Instr.sureAddr, Instr.sliceBounds, Instr.sliceBound, asIntOf, run_sizeOf hs0, e1 z k hk, e2 z' k' hk', h1, h2, add_off]
          split <;> rfl
    simp [execOp, hs.ev hx, key]

/-- A slice's literal, laid whole by the model itself. -/
theorem fr_buildSlice {t el len : Nat} {ps : List (Nat × Operand)} {vs : List (Nat × Value)} {cs : List Value} (hx : evps F ps = some vs)
    (hb : SliceTo P t len vs cs el) :
    Fresh P K G w0 ⟨d, .buildSlice t len ps.toArray, ty, pos, after, g⟩ F (fun b => .slice (some ⟨b, 0, none⟩) len len) (blk cs el) :=
  fun a w hs _ => by
    have := evps_map hs hx
    simp [execOp, this, hb w]

/-- A slice that the function itself owns: nil, or at the head of a block whose cells are xs and some spare ones. -/
inductive IsSl (el s : Nat) : Value → Nat → Hp → List Value → Prop
  | nil : IsSl el s (.slice none 0 0) 0 [] []
  | at_ {b len cap : Nat} {xs spare : List Value} (h1 : xs.length = len * s) (h2 : (xs ++ spare).length = cap * s) (h3 : cap ≤ maxLen) : IsSl el s (.slice (some ⟨b, 0, none⟩) len cap) len [(b, blk (xs ++ spare) el)] xs

theorem IsSl.len {el s : Nat} {v : Value} {len : Nat} {hp : Hp} {xs : List Value} (h : IsSl el s v len hp xs) : xs.length = len * s := by
  cases h with
  | nil => simp
  | at_ h1 => exact h1
theorem IsSl.shape {el s : Nat} {v : Value} {len : Nat} {hp : Hp} {xs : List Value} (h : IsSl el s v len hp xs) : ∃ ad cap, v = .slice ad len cap := by
  cases h with
  | nil => exact ⟨none, 0, rfl⟩
  | at_ h1 => exact ⟨_, _, rfl⟩

theorem TyS.info {t el s bytes : Nat} {zs : List Value} (T : TyS P t el s bytes zs) : ∃ i z, P.info? el = some i ∧ i.zero = some z ∧ i.size = s ∧ i.bytes = bytes ∧ z.cells = zs.toArray := by
  obtain ⟨z, hz, hzc⟩ := T.zero
  have hsz := T.size
  have hby := T.bytes
  unfold sizeIn at hsz
  cases hi : P.info? el with
  | none => simp [hi] at hsz
  | some i =>
    simp only [hi, Option.map_some, Option.some.injEq, Option.bind_some] at hsz hby hz
    exact ⟨i, z, rfl, hz, hsz, hby, hzc⟩

/-- append of what lies in a block to a slice of the function's own. -/
theorem OpsW.append {ops : Array Oper} {rest : List Oper} {dd : Nat} {R : Fr → Hp → Prop} {t el s bytes : Nat} {zs : List Value} (T : TyS P t el s bytes zs) {v : Value} {len : Nat} {hp H' : Hp} {xs : List Value}
    (hx : ev F x = some v) (hv : IsSl el s v len hp xs) {b o m c : Nat} {cs news : List Value} {e : TypeId} {fr : Nat × Nat} (hy : ev F y = some (.slice (some ⟨b, o, none⟩) m c))
    (hm : (b, Obj.cells cs.toArray e fr) ∈ hp ++ H' ∨ (b, Obj.cells cs.toArray e fr) ∈ G) (hl : news.length = m * s) (hnews : ∀ j u, news[j]? = some u → cs[o + j]? = some u) (h1 : news.all (·.oneCell') = true)
    (h63 : len + m ≤ maxLen) (hbytes : (len + m) * bytes ≤ 140737488355328) (hd : Nat.blt dd n = true)
    (h : ∀ v' hp', IsSl el s v' (len + m) hp' (xs ++ news) → OpsW P n K G w0 ops rest R ((dd, v') :: F) (hp' ++ H')) :
    OpsW P n K G w0 ops (⟨some dd, .call { callee := .builtin .append, args := #[x, y], argTypes := #[t, t] }, ty, pos, after, none⟩ :: rest) R F (hp ++ H') := by
  intro a w Qx r hq
  refine wpList_any ?_
  have hdn : dd < n := of_decide_eq_true (by simpa using hd)
  obtain ⟨i, z, hi, hz, hsz, hby, hzc⟩ := T.info
  subst hsz
  subst hby
  have hzs : z.cells.size = i.size := by rw [hzc]; simp [T.len]
  have hcell : ∀ j u, news[j]? = some u → w.cell? ((⟨b, o, none⟩ : Addr).add j) = some u := fun j u hj => by
    rw [add_off]
    rcases hm with hm | hm
    · rw [cell_blk (r.blocks _ hm)]; exact hnews j u hj
    · rw [cell_blk (r.old.look hm)]; exact hnews j u hj
  have hsmall : len + m ≤ 9223372036854775807 := by simp only [maxLen] at h63; omega
  have hlen : (xs ++ news).length = (len + m) * i.size := by rw [List.length_append, hv.len, hl, Nat.add_mul]
  unfold Oper.wp
  have hrun : ∀ {u w'}, (Builtin.append_ #[t, t] ty #[v, .slice (some ⟨b, o, none⟩) m c]).run P w = .ok u w' →
      (execOp a.eval ⟨some dd, .call { callee := .builtin .append, args := #[x, y], argTypes := #[t, t] }, ty, pos, after, none⟩).run P w = .ok (.value u) w' := fun hr => by
    simp [execOp, resolve, r.slots.ev hx, r.slots.ev hy, invoke, builtin, hr]
  -- a new block
  have grown : ∀ (old : Nat), (Builtin.append_ #[t, t] ty #[v, .slice (some ⟨b, o, none⟩) m c]).run P w = .ok (.slice (some ⟨w.heap.size, 0, none⟩) (len + m) (grownCap w (len + m) old el))
      (w.drew.alloc (.cells (xs.toArray ++ news.toArray ++ Builtin.zeroCells z.cells (grownCap w (len + m) old el - (len + m))) el)) →
      Oper.upon P ⟨some dd, .call { callee := .builtin .append, args := #[x, y], argTypes := #[t, t] }, ty, pos, after, none⟩ a (wpList P ops Qx rest) Qx
        ((execOp a.eval ⟨some dd, .call { callee := .builtin .append, args := #[x, y], argTypes := #[t, t] }, ty, pos, after, none⟩).run P w) := by
    intro old hr
    rw [hrun hr]
    have hge := grownCap_ge w (len + m) old el
    have hcm := grownCap_le_maxLen w (len + m) old el h63
    have hsl : IsSl el i.size (.slice (some ⟨w.heap.size, 0, none⟩) (len + m) (grownCap w (len + m) old el)) (len + m)
        [(w.heap.size, blk ((xs ++ news) ++ (Builtin.zeroCells z.cells (grownCap w (len + m) old el - (len + m))).toList) el)] (xs ++ news) := by
      refine .at_ hlen ?_ hcm
      simp only [List.length_append, Array.length_toList, size_zeroCells, hzs] at hlen ⊢
      rw [hlen, ← Nat.add_mul]
      congr 1
      omega
    have hb : Below w.heap.size w (w.drew.alloc (.cells (xs.toArray ++ news.toArray ++ Builtin.zeroCells z.cells (grownCap w (len + m) old el - (len + m))) el)) :=
      ((Below.refl _ _).drew).alloc (Nat.le_refl _) _
    have hR := (r.less (H' := H') (List.sublist_append_right _ _)).new (d := dd) (v := .slice (some ⟨w.heap.size, 0, none⟩) (len + m) (grownCap w (len + m) old el)) hdn hb
      (H' := [(w.heap.size, blk ((xs ++ news) ++ (Builtin.zeroCells z.cells (grownCap w (len + m) old el - (len + m))).toList) el)]) (by
        intro p hp
        simp only [List.mem_singleton] at hp
        subst hp
        show (w.drew.heap.push _)[w.heap.size]? = some _
        have : w.drew.heap.size = w.heap.size := rfl
        rw [← this, Array.getElem?_push_size]
        congr 2
        apply Array.ext'
        simp) (by simp) (by simp)
    exact h _ _ hsl _ _ _ hR hq
  cases hv with
  | nil =>
    by_cases hm0 : m = 0
    · subst hm0
      have hn : news = [] := List.eq_nil_of_length_eq_zero (by simpa using hl)
      subst hn
      rw [hrun (u := .slice none 0 0) (w' := w) (by simp [Builtin.append_, run_underlying T.und, sizeOf, typeInfo, hi, Builtin.lenOf, Builtin.firstCells, loadCells, loadCellsFrom])]
      exact h _ _ .nil _ _ _ (r.put hdn) hq
    · have hr := run_append_nil (P := P) w t ty el i z T.und hi hz ⟨b, o, none⟩ m c news hl hcell (by omega) (by omega) (by have hb := hbytes; simp only [Nat.zero_add] at hb; omega)
      refine grown 0 ?_
      simp only [Nat.zero_add, Array.empty_append]
      exact hr
  | @at_ g _ cap _ spare h1' h2' h3' =>
    have hg := r.blocks (g, blk (xs ++ spare) el) (by simp)
    by_cases hroom : len + m ≤ cap
    · have hfit : len * i.size + news.length ≤ (xs ++ spare).toArray.size := by
        rw [List.size_toArray, h2', hl, ← Nat.add_mul]; exact Nat.mul_le_mul_right _ hroom
      have hr := run_append_room (P := P) (ty := ty) w t el i T.und hi g len cap (xs ++ spare).toArray hg ⟨b, o, none⟩ m c news hl hcell (fun u hu => (List.all_eq_true.1 h1) u hu) hroom hfit
      rw [hrun hr]
      have e1 : ((xs ++ spare).toArray.toList.take (len * i.size) ++ news ++ (xs ++ spare).toArray.toList.drop (len * i.size + news.length)).toArray = ((xs ++ news) ++ spare.drop news.length).toArray := by
        simp [← h1', List.drop_append]
      rw [e1]
      have hsl : IsSl el i.size (.slice (some ⟨g, 0, none⟩) (len + m) cap) (len + m) [(g, blk ((xs ++ news) ++ spare.drop news.length) el)] (xs ++ news) := by
        refine .at_ hlen ?_ h3'
        simp only [List.length_append, List.length_drop, List.size_toArray] at h2' hfit ⊢
        omega
      exact h _ _ hsl _ _ _ ((r.wrote (H' := (g, blk ((xs ++ news) ++ spare.drop news.length) el) :: H') (.here (H := H')) (setRow_wrote hg)).put hdn) hq
    · have holds : ∀ j u, xs[j]? = some u → w.cell? ((⟨g, 0, none⟩ : Addr).add j) = some u := fun j u hj => by
        rw [add_off, cell_blk hg, Nat.zero_add, List.getElem?_append_left (List.getElem?_eq_some_iff.1 hj).1]; exact hj
      exact grown cap (run_append_grow (P := P) w t ty el i z T.und hi hz ⟨g, 0, none⟩ len cap xs h1' holds ⟨b, o, none⟩ m c news hl hcell (by omega) (by omega) (growslice_fits (by omega) hbytes))

/-- make. -/
def zrep (zs : List Value) (c : Nat) : List Value := (List.replicate c zs).flatten
theorem zrep_length {zs : List Value} {c : Nat} : (zrep zs c).length = c * zs.length := by
  unfold zrep; rw [List.length_flatten]; simp
theorem zrep_get {zs : List Value} : ∀ {c i : Nat}, i < c * zs.length → (zrep zs c)[i]? = zs[i % zs.length]?
  | 0, i, h => by simp at h
  | c + 1, i, h => by
    unfold zrep
    rw [List.replicate_succ, List.flatten_cons]
    by_cases hi : i < zs.length
    · rw [List.getElem?_append_left hi, Nat.mod_eq_of_lt hi]
    · have hz : 0 < zs.length := by
        rcases Nat.eq_zero_or_pos zs.length with h0 | h0
        · rw [h0] at h; simp at h
        · exact h0
      rw [List.getElem?_append_right (by omega)]
      have := zrep_get (zs := zs) (c := c) (i := i - zs.length) (by rw [Nat.succ_mul] at h; omega)
      unfold zrep at this
      rw [this]
      congr 1
      rw [Nat.mod_eq_sub_mod (by omega : i ≥ zs.length)]

theorem fr_makeSlice {t el s bytes l c : Nat} {zs : List Value} (T : TyS P t el s bytes zs) {kl kc : IntKind} (hx : ev F x = some (.int kl (l : Int))) (hy : ev F y = some (.int kc (c : Int))) (hlc : l ≤ c) (hby : bytes * c ≤ 281474976710656) (h63 : c ≤ 9223372036854775807) :
    Fresh P K G w0 ⟨d, .makeSlice t x y, ty, pos, after, g⟩ F (fun b => .slice (some ⟨b, 0, none⟩) l c) (blk (zrep zs c) el) :=
  fun a w hs _ => by
    obtain ⟨i, z, hi, hz, hsz, hb, hzc⟩ := T.info
    subst hsz
    subst hb
    have w1 : IntKind.i64.wrap (l : Int) = l := IntWalk.i64_in _ (by omega)
    have w2 : IntKind.i64.wrap (c : Int) = c := IntWalk.i64_in _ (by omega)
    have hbig : ¬ (281474976710656 < (i.bytes : Int) * (c : Int)) := by
      have : ((i.bytes * c : Nat) : Int) ≤ 281474976710656 := Int.ofNat_le.2 hby
      rw [Int.natCast_mul] at this; omega
    have cells : ((Array.range (c * i.size)).map fun j => z.cells[j % z.cells.size]!) = (zrep zs c).toArray := by
      apply Array.ext'
      apply List.ext_getElem?
      intro j
      simp only [Array.toList_map, Array.toList_range, List.getElem?_map]
      by_cases hj : j < c * i.size
      · rw [List.getElem?_range hj, Option.map_some, hzc]
        rw [zrep_get (by rw [T.len]; exact hj)]
        have hlt : j % zs.length < zs.length := Nat.mod_lt _ (by rw [T.len]; exact T.pos)
        simp [hlt]
      · rw [List.getElem?_eq_none (by simp; omega), List.getElem?_eq_none (by rw [zrep_length, T.len]; omega)]
        rfl
    have e0 : ¬ ((l : Int) < 0) := by omega
    have e1 : ¬ ((c : Int) < 0) := by omega
    have e2 : ¬ ((c : Int) < (l : Int)) := by omega
    by_cases hn : c * i.size = 0
    · have hc0 : (zrep zs c) = [] := List.eq_nil_of_length_eq_zero (by rw [zrep_length, T.len]; exact hn)
      simp [execOp, hs.ev hx, hs.ev hy, Instr.makeSlice, run_underlying T.und, asInt, asIntOf, typeInfo, hi, w1, w2, hbig, sizeOf, hn, hc0, newRow, newObj, e0, e1, e2]
      rw [show Array.map (fun _ => (default : Value)) (Array.range 0) = #[] from by apply Array.ext'; simp]
      rfl
    · simp [execOp, hs.ev hx, hs.ev hy, Instr.makeSlice, run_underlying T.und, asInt, asIntOf, typeInfo, hi, hz, zeroValue, w1, w2, hbig, sizeOf, hn, cells, newRow, newObj, e0, e1, e2]
      rfl
end
end Go.Vm
