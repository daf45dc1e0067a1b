/-
  The disk: what a disk is, plain; and where it lies in a heap.
  Conditions: none; definitions and lemmas.
-/
import Derived.Test.YtajedkhfliondaaBy
namespace Go.Dk
open Go Go.Vm Go.RowKit Go.Proofs Go.Cu
set_option linter.unusedVariables false
set_option linter.unusedSimpArgs false

abbrev Nm := List UInt8
/-- A file: its name, its bytes, how many of them are safe. -/
structure Fl where
  nm : Nm
  data : List Nat
  safe : Nat
  deriving DecidableEq
structure AD where
  fs : List Fl
  room : Nat
  steps : Nat
  fuse : Nat
  down : Bool
  deriving DecidableEq
def fnd (s : Nm) : List Fl → Option Fl
  | [] => none
  | f :: r => if s = f.nm then some f else fnd s r
def put (a : Fl) : List Fl → List Fl
  | [] => [a]
  | f :: r => if a.nm = f.nm then a :: r else f :: put a r
def del (s : Nm) : List Fl → List Fl
  | [] => []
  | f :: r => if s = f.nm then r else f :: del s r
def total (fs : List Fl) : Nat := (fs.map (·.safe)).sum
def okB (b : UInt8) : Bool := decide ((97 ≤ (b.toNat : Int) ∧ (b.toNat : Int) ≤ 122) ∨ (48 ≤ (b.toNat : Int) ∧ (b.toNat : Int) ≤ 57) ∨ (b.toNat : Int) = 45)
def right (s : Nm) : Bool := decide (0 < s.length ∧ s.length ≤ 24) && s.all okB
/-- Why a call about a file isn't carried out. -/
def bars (A : AD) (s : Nm) (there : Bool) : Nat :=
  if A.down = true then 2 else if right s = false then 40 else if there = true ∧ fnd s A.fs = none then 41 else 0
/-- A step: what is left of the fuse; whether the power holds. -/
def step (A : AD) : AD × Bool := if A.fuse = 1 then ({ A with fuse := 0, down := true }, false) else ({ A with fuse := A.fuse - 1, steps := A.steps + 1 }, true)
def getF (s : Nm) (fs : List Fl) : Fl := (fnd s fs).getD ⟨s, [], 0⟩
def maxRoom : Nat := 4194304
/-- No text and no list of bytes is longer. -/
def bigRoom : Nat := 140737488355328
theorem max_big : maxRoom ≤ bigRoom := by decide
def append (A : AD) (s : Nm) (b : List Nat) : AD × Nat :=
  if bars A s false ≠ 0 then (A, bars A s false) else
  if fnd s A.fs = none ∧ 32 ≤ A.fs.length then (A, 43) else
  if maxRoom < (getF s A.fs).data.length + b.length then (A, 18) else
  let A1 := { A with fs := put { getF s A.fs with data := (getF s A.fs).data ++ b } A.fs }
  ((step A1).1, if (step A1).2 = true then 0 else 2)
def sync (A : AD) (s : Nm) : AD × Nat :=
  if bars A s true ≠ 0 then (A, bars A s true) else
  if A.room + (getF s A.fs).safe < total A.fs + (getF s A.fs).data.length then (A, 42) else
  if (step A).2 = false then ((step A).1, 2) else
  ({ (step A).1 with fs := put { getF s A.fs with safe := (getF s A.fs).data.length } A.fs }, 0)
def cut (A : AD) (s : Nm) (n : Int) : AD × Nat :=
  if bars A s true ≠ 0 then (A, bars A s true) else
  if n < 0 ∨ ((getF s A.fs).data.length : Int) < n then (A, 1) else
  if (step A).2 = false then ((step A).1, 2) else
  ({ (step A).1 with fs := put ⟨s, (getF s A.fs).data.take n.toNat, min (getF s A.fs).safe n.toNat⟩ A.fs }, 0)
def move (A : AD) (s t : Nm) : AD × Nat :=
  if bars A s true ≠ 0 then (A, bars A s true) else
  if right t = false then (A, 40) else
  if (step A).2 = false then ((step A).1, 2) else
  ({ (step A).1 with fs := put { getF s A.fs with nm := t } (del s A.fs) }, 0)
def drop (A : AD) (s : Nm) : AD × Nat :=
  if bars A s true ≠ 0 then (A, bars A s true) else
  if (step A).2 = false then ((step A).1, 2) else
  ({ (step A).1 with fs := del s A.fs }, 0)
def fuseTo (A : AD) (n : Int) : AD := { A with fuse := (max 0 n).toNat }
/-- The names, sorted. -/
def names (fs : List Fl) : List Nm := (fs.map (·.nm)).mergeSort fun x y => decide (x ≤ y)
/-- Of the i-th file's bytes some more are kept. -/
def crash1 (keep : List Int) (fs : List Fl) (room i : Nat) (s : Nm) : List Fl :=
  let a := getF s fs
  let more : Nat := if h : i < keep.length then (max 0 (min keep[i] ((a.data.length - a.safe : Nat) : Int))).toNat else 0
  let n := max a.safe (min (a.safe + more) (room + a.safe - total fs))
  put ⟨s, a.data.take n, n⟩ fs
def crashes (keep : List Int) (room : Nat) : List Fl → Nat → List Nm → List Fl
  | fs, _, [] => fs
  | fs, i, s :: r => crashes keep room (crash1 keep fs room i s) (i + 1) r
def crash (A : AD) (keep : List Int) : AD := { A with fs := crashes keep A.room A.fs 0 (names A.fs), fuse := 0, down := false }
def image (fs : List Fl) : List Fl := (names fs).map fun s => getF s fs
def fresh (room : Int) : AD := ⟨[], (max 0 (min room 4194304)).toNat, 0, 0, false⟩
/-- What holds of each disk. -/
structure AD.ok (A : AD) : Prop where
  names : (A.fs.map (·.nm)).Nodup
  safe : ∀ f ∈ A.fs, f.safe ≤ f.data.length
  size : ∀ f ∈ A.fs, f.data.length ≤ bigRoom
  small : ∀ f ∈ A.fs, ∀ c ∈ f.data, c < 256
  fits : total A.fs ≤ A.room
  room : A.room ≤ maxRoom
  many : A.fs.length ≤ 32
  fuse : A.fuse ≤ 9223372036854775807

/-! ### In a heap -/
/-- A file as it lies in the map. -/
structure FE where
  nm : Nm
  born : Nat
  ad : Option Addr
  cap : Nat
  hp : Hp
  data : List Nat
  safe : Nat
abbrev FE.fl (f : FE) : Fl := ⟨f.nm, f.data, f.safe⟩
abbrev fval (ad : Option Addr) (n cap safe : Nat) : Value := .agg [.slice ad n cap, .int .i64 (safe : Nat)].toArray
abbrev FE.val (f : FE) : Value := fval f.ad f.data.length f.cap f.safe
abbrev FE.me (f : FE) : ME := (f.nm, f.val, f.born)
def FE.ok (f : FE) : Prop := Own 5 f.ad f.data.length f.cap f.hp (bcells f.data)
structure Rp where
  fs : List FE
  clock : Nat
  room : Nat
  steps : Nat
  fuse : Nat
  down : Bool
abbrev dblk (bm room steps fuse : Nat) (down : Bool) : Obj := blk [.map (some bm), .int .i64 (room : Nat), .int .i64 (steps : Nat), .int .i64 (fuse : Nat), .bool down] 66
def fhp (fs : List FE) : Hp := (fs.map FE.hp).flatten
def Rp.hp (r : Rp) (bD bm : Nat) : Hp := (bD, dblk bm r.room r.steps r.fuse r.down) :: (bm, mobj (r.fs.map FE.me) r.clock) :: fhp r.fs
structure Rp.ok (r : Rp) : Prop where
  files : ∀ f ∈ r.fs, f.ok
  borns : (r.fs.map (·.born)).Nodup
  old : ∀ f ∈ r.fs, f.born < r.clock
def Rp.ad (r : Rp) : AD := ⟨r.fs.map FE.fl, r.room, r.steps, r.fuse, r.down⟩
/-- The disk A lies at block bD in the heap H. -/
def DiskIs (bD : Nat) (A : AD) (H : Hp) : Prop := ∃ (r : Rp) (bm : Nat) (l : Hp), r.ok ∧ r.ad = A ∧ l.Perm (r.hp bD bm) ∧ l.Sublist H
theorem DiskIs.mk {bD bm : Nat} {A : AD} {H : Hp} (r : Rp) (h1 : r.ok) (h2 : r.ad = A) (l : Hp) (h3 : l.Perm (r.hp bD bm)) (h4 : l.Sublist H) : DiskIs bD A H := ⟨r, bm, l, h1, h2, h3, h4⟩
theorem DiskIs.more {bD : Nat} {A : AD} {H H' : Hp} (h : DiskIs bD A H) (hs : H.Sublist H') : DiskIs bD A H' := by
  obtain ⟨r, bm, l, h1, h2, h3, h4⟩ := h
  exact ⟨r, bm, l, h1, h2, h3, h4.trans hs⟩
theorem DiskIs.read {bD : Nat} {A : AD} {H : Hp} {w : World} (h : DiskIs bD A H) (hb : Blocks H w) : ∃ r bm, Rp.ok r ∧ r.ad = A ∧ Blocks (r.hp bD bm) w := by
  obtain ⟨r, bm, l, h1, h2, h3, h4⟩ := h
  exact ⟨r, bm, h1, h2, fun p hp => hb p (h4.subset (h3.mem_iff.2 hp))⟩
section
variable {P : Program} {n : Nat} {K : List Nat} {G : Hp} {w0 : World} {F : Fr} {H : Hp}
theorem DiskIs.W {bD : Nat} {A : AD} {c : Code} {Q : Exit → Fr → Hp → Prop} (h : DiskIs bD A H) (k : ∀ r bm, Rp.ok r → r.ad = A → Vm.W P n K G w0 c Q F (r.hp bD bm)) : Vm.W P n K G w0 c Q F H := by
  obtain ⟨r, bm, l, h1, h2, h3, h4⟩ := h
  exact fun a w rr => k r bm h1 h2 a w ((rr.less h4).perm h3.symm)
theorem DiskIs.Ops {bD : Nat} {A : AD} {ops : Array Oper} {rest : List Oper} {R : Fr → Hp → Prop} (h : DiskIs bD A H) (k : ∀ r bm, Rp.ok r → r.ad = A → OpsW P n K G w0 ops rest R F (r.hp bD bm)) : OpsW P n K G w0 ops rest R F H := by
  obtain ⟨r, bm, l, h1, h2, h3, h4⟩ := h
  exact fun a w Qx rr hq => k r bm h1 h2 a w Qx ((rr.less h4).perm h3.symm) hq
theorem DiskIs.WX {bD : Nat} {A : AD} {c : Code} {Q : Exit → Fr → Hp → Prop} {X : Hp} (h : DiskIs bD A H) (k : ∀ r bm, Rp.ok r → r.ad = A → Vm.W P n K G w0 c Q F (r.hp bD bm ++ X)) : Vm.W P n K G w0 c Q F (H ++ X) := by
  obtain ⟨r, bm, l, h1, h2, h3, h4⟩ := h
  exact fun a w rr => k r bm h1 h2 a w ((rr.less (h4.append_right X)).perm ((h3.append_right X).symm))
end
/-! ### Finding -/
theorem fnd_none {s : Nm} : ∀ {fs : List FE}, fnd s (fs.map FE.fl) = none → (∀ f ∈ fs, s ≠ f.nm) ∧ mfind s (fs.map FE.me) = none
  | [], _ => ⟨(fun _ h => by cases h), rfl⟩
  | f :: r, h => by
    unfold fnd at h
    rw [List.map_cons] at h
    simp only at h
    by_cases he : s = f.nm
    · simp [FE.fl, he] at h
    · have h' : fnd s (r.map FE.fl) = none := by simpa [FE.fl, he] using h
      obtain ⟨h1, h2⟩ := fnd_none h'
      refine ⟨fun g hg => ?_, ?_⟩
      · rcases List.mem_cons.1 hg with rfl | hg
        · exact he
        · exact h1 g hg
      · simp [mfind, FE.me, he, h2]
theorem fnd_some {s : Nm} : ∀ {fs : List FE} {a : Fl}, fnd s (fs.map FE.fl) = some a → ∃ l1 f l2, fs = l1 ++ f :: l2 ∧ f.fl = a ∧ f.nm = s ∧ (∀ g ∈ l1, s ≠ g.nm)
  | [], a, h => by cases h
  | f :: r, a, h => by
    unfold fnd at h
    rw [List.map_cons] at h
    simp only at h
    by_cases he : s = f.nm
    · have h' : f.fl = a := by simpa [FE.fl, he] using h
      exact ⟨[], f, r, rfl, h', he.symm, fun _ h => by cases h⟩
    · have h' : fnd s (r.map FE.fl) = some a := by simpa [FE.fl, he] using h
      obtain ⟨l1, g, l2, h1, h2, h3, h4⟩ := fnd_some h'
      refine ⟨f :: l1, g, l2, by rw [h1]; rfl, h2, h3, fun x hx => ?_⟩
      rcases List.mem_cons.1 hx with rfl | hx
      · exact he
      · exact h4 x hx
theorem mfind_at {s : Nm} {f : FE} {l2 : List FE} : ∀ {l1 : List FE}, f.nm = s → (∀ g ∈ l1, s ≠ g.nm) → mfind s ((l1 ++ f :: l2).map FE.me) = some f.val
  | [], h, _ => by simp [mfind, FE.me, h]
  | g :: l1, h, hn => by
    have h1 := hn g (by simp)
    have := mfind_at (l1 := l1) (l2 := l2) h (fun x hx => hn x (by simp [hx]))
    simp only [List.cons_append, List.map_cons, mfind, FE.me, h1, if_false]
    exact this
theorem mset_at {s : Nm} {f f' : FE} {v : Value} {c : Nat} {l2 : List FE} (hv : f'.val = v) (hb : f'.born = f.born) (hm : f'.nm = s) : ∀ {l1 : List FE}, f.nm = s → (∀ g ∈ l1, s ≠ g.nm) →
    mset s v c ((l1 ++ f :: l2).map FE.me) = (l1 ++ f' :: l2).map FE.me
  | [], h, _ => by simp [mset, FE.me, h, hv, hb, hm]
  | g :: l1, h, hn => by
    have h1 := hn g (by simp)
    have := mset_at (l2 := l2) (c := c) hv hb hm (l1 := l1) h (fun x hx => hn x (by simp [hx]))
    simp only [List.cons_append, List.map_cons, mset, FE.me, h1, if_false]
    exact congrArg _ this
theorem mdel_at {s : Nm} {f : FE} {l2 : List FE} : ∀ {l1 : List FE}, f.nm = s → (∀ g ∈ l1, s ≠ g.nm) → mdel s ((l1 ++ f :: l2).map FE.me) = (l1 ++ l2).map FE.me
  | [], h, _ => by simp [mdel, FE.me, h]
  | g :: l1, h, hn => by
    have h1 := hn g (by simp)
    have := mdel_at (l2 := l2) (l1 := l1) h (fun x hx => hn x (by simp [hx]))
    simp only [List.cons_append, List.map_cons, mdel, FE.me, h1, if_false]
    exact congrArg _ this
theorem mclk_at {s : Nm} {c : Nat} {l : List ME} {v : Value} (h : mfind s l = some v) : mclk s c l = c := by simp [mclk, h]
theorem mclk_no {s : Nm} {c : Nat} {l : List ME} (h : mfind s l = none) : mclk s c l = c + 1 := by simp [mclk, h]
theorem fnd_at {s : Nm} {f : Fl} {l2 : List Fl} : ∀ {l1 : List Fl}, f.nm = s → (∀ g ∈ l1, s ≠ g.nm) → fnd s (l1 ++ f :: l2) = some f
  | [], h, _ => by simp [fnd, h]
  | g :: l1, h, hn => by
    have h1 := hn g (by simp)
    have := fnd_at (l1 := l1) (l2 := l2) h (fun x hx => hn x (by simp [hx]))
    simp only [List.cons_append, fnd, h1, if_false]
    exact this
theorem put_at {a f : Fl} {l2 : List Fl} : ∀ {l1 : List Fl}, f.nm = a.nm → (∀ g ∈ l1, a.nm ≠ g.nm) → put a (l1 ++ f :: l2) = l1 ++ a :: l2
  | [], h, _ => by simp [put, h]
  | g :: l1, h, hn => by
    have h1 := hn g (by simp)
    have := put_at (l1 := l1) (l2 := l2) h (fun x hx => hn x (by simp [hx]))
    simp only [List.cons_append, put, h1, if_false]
    exact congrArg _ this
theorem put_no {a : Fl} : ∀ {l : List Fl}, (∀ g ∈ l, a.nm ≠ g.nm) → put a l = l ++ [a]
  | [], _ => rfl
  | g :: l, hn => by
    have h1 := hn g (by simp)
    have := put_no (l := l) (fun x hx => hn x (by simp [hx]))
    simp only [List.cons_append, put, h1, if_false]
    exact congrArg _ this
theorem del_at {s : Nm} {f : Fl} {l2 : List Fl} : ∀ {l1 : List Fl}, f.nm = s → (∀ g ∈ l1, s ≠ g.nm) → del s (l1 ++ f :: l2) = l1 ++ l2
  | [], h, _ => by simp [del, h]
  | g :: l1, h, hn => by
    have h1 := hn g (by simp)
    have := del_at (l1 := l1) (l2 := l2) h (fun x hx => hn x (by simp [hx]))
    simp only [List.cons_append, del, h1, if_false]
    exact congrArg _ this
theorem fnd_mem {s : Nm} : ∀ {fs : List Fl} {a : Fl}, fnd s fs = some a → a ∈ fs ∧ a.nm = s
  | [], a, h => by cases h
  | f :: r, a, h => by
    unfold fnd at h
    by_cases he : s = f.nm
    · simp only [he, if_true, Option.some.injEq] at h
      subst h
      exact ⟨by simp, he.symm⟩
    · simp only [he, if_false] at h
      obtain ⟨h1, h2⟩ := fnd_mem h
      exact ⟨by simp [h1], h2⟩
theorem fnd_no {s : Nm} : ∀ {fs : List Fl}, fnd s fs = none ↔ ∀ g ∈ fs, s ≠ g.nm
  | [] => ⟨(fun _ _ h => by cases h), (fun _ => rfl)⟩
  | f :: r => by
    unfold fnd
    by_cases he : s = f.nm
    · simp [he]
    · simp [he, fnd_no (fs := r)]
theorem fnd_split {s : Nm} : ∀ {fs : List Fl} {a : Fl}, fnd s fs = some a → ∃ l1 l2, fs = l1 ++ a :: l2 ∧ a.nm = s ∧ ∀ g ∈ l1, s ≠ g.nm
  | [], a, h => by cases h
  | f :: r, a, h => by
    unfold fnd at h
    by_cases he : s = f.nm
    · simp only [he, if_true, Option.some.injEq] at h
      subst h
      exact ⟨[], r, rfl, he.symm, fun _ h => by cases h⟩
    · simp only [he, if_false] at h
      obtain ⟨l1, l2, h1, h2, h3⟩ := fnd_split h
      refine ⟨f :: l1, l2, by rw [h1]; rfl, h2, fun x hx => ?_⟩
      rcases List.mem_cons.1 hx with rfl | hx
      · exact he
      · exact h3 x hx
theorem fhp_at {l1 l2 : List FE} {f : FE} : fhp (l1 ++ f :: l2) = fhp l1 ++ (f.hp ++ fhp l2) := by simp [fhp]
theorem fhp_app {l1 l2 : List FE} : fhp (l1 ++ l2) = fhp l1 ++ fhp l2 := by simp [fhp]
theorem perm_front {a b c : Hp} {x y : Nat × Obj} : (a ++ (x :: y :: (b ++ c))).Perm (x :: y :: (b ++ (a ++ c))) := by
  have h1 : (a ++ (x :: y :: (b ++ c))).Perm ((x :: y :: (b ++ c)) ++ a) := List.perm_append_comm
  refine h1.trans ?_
  simp only [List.cons_append, List.append_assoc]
  exact ((List.perm_append_comm.append_left b).cons y).cons x
theorem total_app (l m : List Fl) : total (l ++ m) = total l + total m := by simp [total]
theorem total_cons (f : Fl) (m : List Fl) : total (f :: m) = f.safe + total m := by simp [total]
theorem look_cases (s : Nm) (fs : List FE) : (fnd s (fs.map FE.fl) = none ∧ mfind s (fs.map FE.me) = none ∧ getF s (fs.map FE.fl) = ⟨s, [], 0⟩ ∧ ∀ g ∈ fs, s ≠ g.nm) ∨
    ∃ l1 f l2, fs = l1 ++ f :: l2 ∧ f.nm = s ∧ (∀ g ∈ l1, s ≠ g.nm) ∧ mfind s (fs.map FE.me) = some f.val ∧ getF s (fs.map FE.fl) = f.fl ∧ f ∈ fs ∧ fnd s (fs.map FE.fl) = some f.fl := by
  cases h : fnd s (fs.map FE.fl) with
  | none =>
    obtain ⟨h1, h2⟩ := fnd_none h
    exact .inl ⟨rfl, h2, by unfold getF; rw [h]; rfl, h1⟩
  | some a =>
    obtain ⟨l1, f, l2, rfl, rfl, h3, h4⟩ := fnd_some h
    exact .inr ⟨l1, f, l2, rfl, h3, h4, mfind_at h3 h4, by unfold getF; rw [h]; rfl, by simp, rfl⟩
theorem rp_set {l1 l2 : List FE} {f f' : FE} {clk a b c a' b' c' : Nat} {d d' : Bool} (hr : Rp.ok ⟨l1 ++ f :: l2, clk, a, b, c, d⟩) (hf : f'.ok) (hb : f'.born = f.born) : Rp.ok ⟨l1 ++ f' :: l2, clk, a', b', c', d'⟩ := by
  refine ⟨fun g hg => ?_, ?_, fun g hg => ?_⟩
  · simp only [List.mem_append, List.mem_cons] at hg
    rcases hg with hg | rfl | hg
    · exact hr.files g (by simp [hg])
    · exact hf
    · exact hr.files g (by simp [hg])
  · have := hr.borns
    simp only [List.map_append, List.map_cons, hb] at this ⊢
    exact this
  · simp only [List.mem_append, List.mem_cons] at hg
    rcases hg with hg | rfl | hg
    · exact hr.old g (by simp [hg])
    · show g.born < clk; rw [hb]; exact hr.old f (by simp)
    · exact hr.old g (by simp [hg])
theorem rp_new {fs : List FE} {f' : FE} {clk a b c a' b' c' : Nat} {d d' : Bool} (hr : Rp.ok ⟨fs, clk, a, b, c, d⟩) (hf : f'.ok) (hb : f'.born = clk) : Rp.ok ⟨fs ++ [f'], clk + 1, a', b', c', d'⟩ := by
  refine ⟨fun g hg => ?_, ?_, fun g hg => ?_⟩
  · rcases List.mem_append.1 hg with hg | hg
    · exact hr.files g hg
    · rw [List.mem_singleton.1 hg]; exact hf
  · show ((fs ++ [f']).map (·.born)).Nodup
    rw [List.map_append, List.nodup_append]
    refine ⟨hr.borns, by simp, fun x hx y hy hxy => ?_⟩
    obtain ⟨g, hg, rfl⟩ := List.mem_map.1 hx
    have h1 := hr.old g hg
    simp only [List.map_cons, List.map_nil, List.mem_singleton] at hy
    have h1 : g.born < clk := h1
    omega
  · rcases List.mem_append.1 hg with hg | hg
    · exact Nat.lt_succ_of_lt (hr.old g hg)
    · rw [List.mem_singleton.1 hg]; show f'.born < clk + 1; omega
theorem rp_del {l1 l2 : List FE} {f : FE} {clk a b c a' b' c' : Nat} {d d' : Bool} (hr : Rp.ok ⟨l1 ++ f :: l2, clk, a, b, c, d⟩) : Rp.ok ⟨l1 ++ l2, clk, a', b', c', d'⟩ := by
  have hsub : (l1 ++ l2).Sublist (l1 ++ f :: l2) := (List.sublist_cons_self f l2).append_left l1
  exact ⟨fun g hg => hr.files g (hsub.subset hg), (hsub.map _).nodup hr.borns, fun g hg => hr.old g (hsub.subset hg)⟩
theorem rp_any {fs : List FE} {clk a b c a' b' c' : Nat} {d d' : Bool} (hr : Rp.ok ⟨fs, clk, a, b, c, d⟩) : Rp.ok ⟨fs, clk, a', b', c', d'⟩ := ⟨hr.files, hr.borns, hr.old⟩
theorem fl_mem {fs : List FE} {s : Nm} (h : ∀ g ∈ fs, s ≠ g.nm) : ∀ g ∈ fs.map FE.fl, s ≠ g.nm := fun g hg => by
  obtain ⟨f, hf, rfl⟩ := List.mem_map.1 hg
  exact h f hf
theorem put_at' {l1 l2 : List FE} {f f' : FE} {s : Nm} (h1 : f.nm = s) (h2 : ∀ g ∈ l1, s ≠ g.nm) (h3 : f'.nm = s) : put f'.fl ((l1 ++ f :: l2).map FE.fl) = (l1 ++ f' :: l2).map FE.fl := by
  rw [List.map_append, List.map_append, List.map_cons, List.map_cons]
  exact put_at (show f.fl.nm = f'.fl.nm from h1.trans h3.symm) (fl_mem fun g hg => by rw [show f'.fl.nm = s from h3]; exact h2 g hg)
theorem put_no' {fs : List FE} {f' : FE} {s : Nm} (h2 : ∀ g ∈ fs, s ≠ g.nm) (h3 : f'.nm = s) : put f'.fl (fs.map FE.fl) = (fs ++ [f']).map FE.fl := by
  rw [List.map_append]
  exact put_no (fl_mem fun g hg => by rw [show f'.fl.nm = s from h3]; exact h2 g hg)
theorem del_at' {l1 l2 : List FE} {f : FE} {s : Nm} (h1 : f.nm = s) (h2 : ∀ g ∈ l1, s ≠ g.nm) : del s ((l1 ++ f :: l2).map FE.fl) = (l1 ++ l2).map FE.fl := by
  rw [List.map_append, List.map_append, List.map_cons]
  exact del_at h1 (fl_mem h2)
theorem fhp_cons {l : List FE} {f : FE} : fhp (f :: l) = f.hp ++ fhp l := by simp [fhp]
theorem fhp_snoc {l : List FE} {f : FE} : fhp (l ++ [f]) = fhp l ++ f.hp := by simp [fhp]
theorem safe_le {fs : List FE} {f : FE} (h : f ∈ fs) : f.safe ≤ total (fs.map FE.fl) := by
  obtain ⟨a, b, rfl⟩ := List.append_of_mem h
  rw [List.map_append, List.map_cons, total_app, total_cons]
  show f.safe ≤ _
  have : f.fl.safe = f.safe := rfl
  omega
theorem fhp_nil : fhp [] = [] := rfl
/-! ### Going through a map -/
/-- Of the files those are done. -/
def Going (fs done : List FE) : Prop := ∃ rest, (done ++ rest).Perm fs
theorem going_nil {fs : List FE} : Going fs [] := ⟨fs, List.Perm.refl _⟩
theorem going_step {fs done : List FE} {f : FE} (g : Going fs done) (hf : f ∈ fs) (hn : f.born ∉ done.map (·.born)) : Going fs (done ++ [f]) ∧ done.length < fs.length ∧ total (done.map FE.fl) + f.safe ≤ total (fs.map FE.fl) := by
  obtain ⟨rest, hp⟩ := g
  have h1 : f ∈ rest := by
    rcases List.mem_append.1 (hp.mem_iff.2 hf) with h | h
    · exact absurd (List.mem_map.2 ⟨f, h, rfl⟩) hn
    · exact h
  obtain ⟨a, b, rfl⟩ := List.append_of_mem h1
  have h2 : ((done ++ [f]) ++ (a ++ b)).Perm fs := by
    refine List.Perm.trans ?_ hp
    rw [List.append_assoc]
    show (done ++ (f :: (a ++ b))).Perm _
    exact (List.perm_middle.symm).append_left done
  refine ⟨⟨a ++ b, h2⟩, ?_, ?_⟩
  · have := h2.length_eq
    simp at this
    omega
  · have h3 : total (((done ++ [f]) ++ (a ++ b)).map FE.fl) = total (fs.map FE.fl) := by
      unfold total
      exact ((h2.map FE.fl).map (·.safe)).sum_nat
    rw [← h3, List.map_append, List.map_append, total_app, total_app]
    simp only [List.map_cons, List.map_nil, total_cons]
    omega
theorem going_end {fs done : List FE} (hb : (fs.map (·.born)).Nodup) (g : Going fs done) (h : ∀ e ∈ fs.map FE.me, e.2.2 ∈ done.map (·.born)) : done.Perm fs := by
  obtain ⟨rest, hp⟩ := g
  have hn := ((hp.map (·.born)).nodup_iff).2 hb
  rw [List.map_append, List.nodup_append] at hn
  have : rest = [] := by
    cases rest with
    | nil => rfl
    | cons x r =>
      have hx : x ∈ fs := hp.mem_iff.1 (List.mem_append_right _ (by simp))
      have h1 := h x.me (List.mem_map.2 ⟨x, hx, rfl⟩)
      exact absurd rfl (hn.2.2 x.born h1 x.born (by simp))
  subst this
  simpa using hp
theorem perm_total {fs done : List FE} (h : done.Perm fs) : total (done.map FE.fl) = total (fs.map FE.fl) := by
  unfold total
  exact ((h.map FE.fl).map (·.safe)).sum_nat
theorem me_born {fs : List FE} {c : Nat} (h : ∀ f ∈ fs, f.born < c) : ∀ e ∈ fs.map FE.me, e.2.2 < c := fun e he => by
  obtain ⟨f, hf, rfl⟩ := List.mem_map.1 he
  exact h f hf
theorem me_borns {fs : List FE} (h : (fs.map (·.born)).Nodup) : ((fs.map FE.me).map (·.2.2)).Nodup := by
  rw [List.map_map]; exact h
theorem blocks_sub {A B : Hp} {w : World} (h : A.Sublist B) (hb : Blocks B w) : Blocks A w := fun p hp => hb p (h.subset hp)
end Go.Dk
