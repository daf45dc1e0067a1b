/-
  What a law's row asks behind a walk that writes nothing that was there and returns true.
  Conditions: none; it is a library of lemmas over any program.
-/
import Derived.Test.YtajedkhfliondaaVmStr
import Derived.WalkSmall
import Derived.ProofKit
namespace Go.Vm
open Go Go.RowKit Go.WideElems Go.ChangeShapes Go.WideShapes

section
variable {H : Type} {enc : TypeId × Value → H} {P : Program}

theorem trodAll_below (hl : laidOutB P = true) {W W' : World} (hb : Below W.heap.size W W') : ∀ {ts : List TypeId} {vs : List Value} {ds : List (DataW H)} {ps : List MemPlace}, ts.all (fun t => P.readableRec t && decide (t < P.types.size)) = true →
    DataW.TrodAll enc P W 0 (fun _ => true) true ts vs ds ps → (∀ p ∈ ps, p.block < W.heap.size) → DataW.TrodAll enc P W' 0 (fun b => decide (b < W.heap.size)) true ts vs ds ps
  | [], [], [], _, _, h, _ => h
  | t :: ts, v :: vs, d :: ds, ps, ht, h, hlt => by
    obtain ⟨p, q, h1, h2, rfl⟩ := h
    simp only [List.all_cons, Bool.and_eq_true, decide_eq_true_eq] at ht
    exact ⟨p, q, Below.trod hl ht.1.1 ht.1.2 h1 hb (fun x hx => hlt x (List.mem_append_left _ hx)), trodAll_below hl hb (by simpa using ht.2) h2 (fun x hx => hlt x (List.mem_append_right _ hx)), rfl⟩
  | [], _ :: _, _, _, _, h, _ => by cases h
  | [], [], _ :: _, _, _, h, _ => by cases h
  | _ :: _, [], _, _, _, h, _ => by cases h
  | _ :: _, _ :: _, [], _, _, h, _ => by cases h

def varOk (P : Program) (n : String) : Bool := match P.globalNamed n with
  | some g => match (P.globals[g]?).map (·.type) with
    | some t => P.readableRec t && decide (t < P.types.size)
    | none => true
  | none => true

theorem trodVars_below (hl : laidOutB P = true) {W W' : World} (hb : Below W.heap.size W W') : ∀ {ns : List String} {gs : List (DataW H)} {ps : List MemPlace}, ns.all (varOk P) = true →
    DataW.TrodVars enc P W (fun _ => true) ns gs ps → (∀ p ∈ ps, p.block < W.heap.size) → DataW.TrodVars enc P W' (fun b => decide (b < W.heap.size)) ns gs ps
  | [], [], _, _, h, _ => h
  | n :: ns, d :: ds, ps, ht, h, hlt => by
    obtain ⟨g, t, cs, fuel, p, q, h1, h2, h3, h4, h5, rfl⟩ := h
    simp only [List.all_cons, Bool.and_eq_true] at ht
    have ht1 := ht.1
    simp only [varOk, h1, h2, Bool.and_eq_true, decide_eq_true_eq] at ht1
    have hg : g < W.heap.size := by
      unfold World.var? at h3
      simp only [h1, Option.bind_some] at h3
      cases hh : W.heap[g]? with
      | none => simp [hh] at h3
      | some o => exact lt_of_some hh
    obtain ⟨fuel', h4'⟩ := Below.trod (v := .agg cs) hl ht1.1 ht1.2 ⟨fuel, h4⟩ hb (fun x hx => hlt x (List.mem_append_left _ (List.mem_append_right _ hx)))
    exact ⟨g, t, cs, fuel', p, q, h1, h2, var?_below hb h1 hg h3, h4', trodVars_below hl hb (by simpa using ht.2) h5 (fun x hx => hlt x (List.mem_append_right _ hx)), rfl⟩
  | [], _ :: _, _, _, h, _ => by cases h
  | _ :: _, [], _, _, h, _ => by cases h

theorem law_post {f : Func} {s : ChangeSpec} {apart fresh handsOn : Bool} {W W' : World} {args : Array Value} {ds gs : List (DataW H)} {before : List MemPlace} {t : TypeId}
    (hl : laidOutB P = true) (ht : f.params.toList.all (fun t => P.readableRec t && decide (t < P.types.size)) = true) (hv : s.vars.all (varOk P) = true)
    (hW : DataW.Whole enc P f.params.toList s.vars apart W args.toList ds gs before) (hb : Below W.heap.size W W') (hr : f.resultTypes = #[t]) (hbool : P.underlying t = some .bool)
    (hS1 : (s.fn H (ds ++ gs)).results = [.lit (.bool true)]) (hS2 : (s.fn H (ds ++ gs)).args = ds) (hS3 : (s.fn H (ds ++ gs)).vars = gs) :
    s.post enc P f apart fresh handsOn false W args (.bool true) W' := by
  have hlt := hW.lt
  have hW' := hW
  obtain ⟨pa, pv, hA, hV, rfl, hz, hn⟩ := hW
  refine ⟨ds, gs, pa ++ pv, [], pa, pv, hW', ?_, ?_, ?_, hb.frame _, fun h => by cases h⟩
  · rw [hS1, hr]
    exact trodAll_mk1 (shut_bool hbool _)
  · rw [hS2]; exact trodAll_below hl hb ht hA (fun x hx => hlt x (List.mem_append_left _ hx))
  · rw [hS3]; exact trodVars_below hl hb hv hV (fun x hx => hlt x (List.mem_append_right _ hx))
end
end Go.Vm
