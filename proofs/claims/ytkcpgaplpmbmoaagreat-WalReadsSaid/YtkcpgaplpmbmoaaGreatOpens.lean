/- How an argument that was read as data is opened: by its type, from the bottom: numbers, truth values, texts, slices, structs, arrays of two. -/
import Derived.Test.YtkcpgaplpmbmoaaGreatWWords
import Derived.SizedLaws
import Derived.ChangeSlices
import Derived.ChangeArms
import Derived.OpenShut
namespace Go.Proofs.YtkcpgaplpmbmoaaGreat.Opn
open Go.Proofs.YtkcpgaplpmbmoaaGreatW.PrintWords Go.ChangeShapes Go.WideShapes
set_option linter.unusedVariables false

/-- What is read at a type is of a kind, and good. -/
structure Opens (P : Program) (t : TypeId) {α : Type} (d : Kd α) (Q : α → Prop) : Prop where
  mk ::
  go : ∀ {H : Type} {enc : TypeId × Value → H} {w : World} {base : Nat} {spare : Nat → Bool} {held : Bool} {fuel : Nat} {cs : List Value} {x : DataW H × List MemPlace},
    DataW.trod enc P w base spare held fuel t cs = some x → (∀ n ∈ x.1.weights P t, n ≤ reachBytes) → ∃ y, d.K w y cs ∧ Q y

theorem reach_is : reachBytes = 140737488351232 := by decide

theorem opens_int {P : Program} {t : TypeId} {k : IntKind} (ht : P.underlying t = some (.int k)) : Opens P t (Kd.int k) (fun n => (Lit.int k n).wf = true) := by
  constructor
  intro H enc w base spare held fuel cs x h _
  obtain ⟨n, rfl, _, hw⟩ := DataW.trod_int ht h
  exact ⟨n, rfl, hw⟩

theorem opens_string {P : Program} {t : TypeId} (ht : P.underlying t = some .string) : Opens P t Kd.string (fun s => s.size ≤ 140737488351232) := by
  constructor
  intro H enc w base spare held fuel cs x h hw
  obtain ⟨s, rfl, rfl, _⟩ := DataW.trod_string ht h
  refine ⟨s, rfl, ?_⟩
  have := hw s.data.toList.length (by simp [DataW.weights])
  rw [reach_is] at this
  simpa using this

theorem weights_all_get {H : Type} {P : Program} {e : TypeId} : ∀ {l : List (DataW H)} {i : Nat} {d : DataW H}, l[i]? = some d → ∀ n ∈ d.weights P e, n ∈ DataW.weightsAll P e l
  | d0 :: l, 0, d, h, n, hn => by
    simp only [List.getElem?_cons_zero, Option.some.injEq] at h
    subst h
    simp only [DataW.weightsAll, List.mem_append]
    exact .inl hn
  | d0 :: l, i + 1, d, h, n, hn => by
    simp only [List.getElem?_cons_succ] at h
    simp only [DataW.weightsAll, List.mem_append]
    exact .inr (weights_all_get h n hn)
  | [], i, d, h, _, _ => by simp at h

/-- The cells of a row that was read, one by one. -/
theorem cells_at {w : World} {base n : Nat} {a : Addr} {cs : List Value} (h : w.cells? base a n = some cs) : cs.length = n ∧ ∀ i u, cs[i]? = some u → w.cell? (a.add i) = some u := by
  unfold World.cells? at h
  split at h
  · have hl := mapM_some_length h
    rw [List.length_range] at hl
    refine ⟨hl, fun i u hu => ?_⟩
    have hi : i < n := by
      have := (List.getElem?_eq_some_iff.1 hu).1
      omega
    have := mapM_some_get h i i (by simp [hi])
    rw [this, hu]
  · cases h

theorem opens_slice {P : Program} {t e : TypeId} {α : Type} {d : Kd α} {Q : α → Prop} {B : Nat} (ht : P.underlying t = some (.slice e)) (hc : P.cellsOf e = d.sz) (hB : P.bytesOf e = B) (he : Opens P e d Q) :
    Opens P t (Kd.slice e d) (fun l => l.length ≤ 9223372036854775807 ∧ l.length * B ≤ 140737488351232 ∧ ∀ x ∈ l, Q x) := by
  constructor
  intro H enc w base spare held fuel cs x h hw
  rcases DataW.trod_slice ht h with ⟨rfl, rfl⟩ | ⟨a, len, cap, elems, rest, n, _, rfl, rfl, hb, hl, hm, hlen, hel, _, _⟩
  · exact ⟨[], ⟨none, 0, rfl, Nat.le_refl _, Kd.C_nil d w⟩, by simp, by simp, fun x hx => by simp at hx⟩
  · have hm' : cap ≤ 9223372036854775807 := by simpa [maxLen] using hm
    have hw1 : (elems.length + rest.length) * P.bytesOf e ≤ reachBytes := hw _ (by simp [DataW.weights, ht])
    have hw2 : ∀ (i : Nat) (y : DataW H × List MemPlace), elems[i]? = some y → ∀ n ∈ y.1.weights P e, n ≤ reachBytes := fun i y hy n hn => hw n (by
      simp only [DataW.weights, ht, List.mem_cons, List.mem_append]
      exact .inr (.inl (weights_all_get (i := i) (by rw [List.getElem?_map, hy]; rfl) n hn)))
    have key : ∀ i, i < len → ∃ y c, c.length = d.sz ∧ d.K w y c ∧ Q y ∧ ∀ j u, c[j]? = some u → w.cell? (a.add (i * d.sz + j)) = some u := by
      intro i hi
      have h1 := hel i hi
      rw [List.getElem?_eq_getElem (by omega)] at h1
      obtain ⟨c, h2, h3⟩ := Option.bind_eq_some_iff.1 h1
      obtain ⟨y, hK, hQ⟩ := he.go h3 (hw2 i _ (List.getElem?_eq_getElem (by omega)))
      obtain ⟨h4, h5⟩ := cells_at h2
      refine ⟨y, c, by rw [h4, hc], hK, hQ, fun j u hu => ?_⟩
      have := h5 j u hu
      rw [hc] at this
      have e1 : (a.add (i * d.sz)).add j = a.add (i * d.sz + j) := by
        unfold Addr.add
        by_cases p : i * d.sz = 0 <;> by_cases q : j = 0 <;> simp [p, q, Nat.add_assoc]
      rwa [e1] at this
    have all : ∀ m, m ≤ len → ∃ l : List α, l.length = m ∧ (∀ x ∈ l, Q x) ∧ ∀ i y, l[i]? = some y → ∃ c, c.length = d.sz ∧ d.K w y c ∧ ∀ j u, c[j]? = some u → w.cell? (a.add (i * d.sz + j)) = some u := by
      intro m
      induction m with
      | zero => intro _; exact ⟨[], rfl, fun x hx => by simp at hx, fun i y hy => by simp at hy⟩
      | succ m ih =>
        intro hm
        obtain ⟨l, h1, h2, h3⟩ := ih (by omega)
        obtain ⟨y, c, h4, h5, h6, h7⟩ := key m (by omega)
        refine ⟨l ++ [y], by simp [h1], fun x hx => ?_, fun i z hz => ?_⟩
        · rcases List.mem_append.1 hx with hx | hx
          · exact h2 x hx
          · rw [List.mem_singleton.1 hx]; exact h6
        · rcases Nat.lt_or_ge i m with hi | hi
          · rw [List.getElem?_append_left (by omega)] at hz
            exact h3 i z hz
          · have hi' : i = m := by
              have := (List.getElem?_eq_some_iff.1 hz).1
              simp [h1] at this
              omega
            subst hi'
            rw [List.getElem?_append_right (by omega)] at hz
            simp [h1] at hz
            subst hz
            exact ⟨c, h4, h5, h7⟩
    obtain ⟨l, h1, h2, h3⟩ := all len (Nat.le_refl _)
    refine ⟨l, ⟨some a, cap, by rw [h1], by omega, rfl, by omega, fun _ => ⟨a, rfl, h3⟩⟩, by omega, ?_, h2⟩
    rw [h1, ← reach_is, ← hB]
    exact Nat.le_trans (Nat.mul_le_mul_right _ (by omega)) hw1

/-- The fields from a place on. -/
structure OpensF (P : Program) (fs : List Field) (o : Nat) {α : Type} (d : Kd α) (Q : α → Prop) : Prop where
  mk ::
  go : ∀ {H : Type} {enc : TypeId × Value → H} {w : World} {base : Nat} {spare : Nat → Bool} {held : Bool} {n : Nat} {cs : List Value} {xs : List (DataW H × List MemPlace)},
    cs.length = o + d.sz → xs.length = fs.length →
    (∀ (i : Nat) (f : Field), fs[i]? = some f → DataW.trod enc P w base spare held n f.type ((cs.drop f.offset).take (P.cellsOf f.type)) = xs[i]?) →
    (∀ (i : Nat) (f : Field) (x : DataW H × List MemPlace), fs[i]? = some f → xs[i]? = some x → ∀ n ∈ x.1.weights P f.type, n ≤ reachBytes) → ∃ y, d.K w y (cs.drop o) ∧ Q y

theorem opensF_one {P : Program} {f : Field} {o : Nat} {α : Type} {d : Kd α} {Q : α → Prop} (ho : f.offset = o) (hc : P.cellsOf f.type = d.sz) (he : Opens P f.type d Q) : OpensF P [f] o d Q := by
  constructor
  intro H enc w base spare held n cs xs hl hx hf hw
  match xs, hx with
  | [x], _ =>
    have h := hf 0 f rfl
    obtain ⟨y, hK, hQ⟩   := he.go h (hw 0 f x rfl rfl)
    rw [ho, hc, List.take_of_length_le (by rw [List.length_drop]; omega)] at hK
    exact ⟨y, hK, hQ⟩

theorem opensF_cons {P : Program} {f : Field} {fs : List Field} {o o' : Nat} {α β : Type} {a : Kd α} {b : Kd β} {Qa : α → Prop} {Qb : β → Prop} (ho : f.offset = o) (hc : P.cellsOf f.type = a.sz) (he : Opens P f.type a Qa) (ho' : o + a.sz = o') (hr : OpensF P fs o' b Qb) :
    OpensF P (f :: fs) o (Kd.pair a b) (fun y => Qa y.1 ∧ Qb y.2) := by
  constructor
  intro H enc w base spare held n cs xs hl hx hf hw
  match xs, hx with
  | x :: xs, hx =>
    have hl' : cs.length = o + (a.sz + b.sz) := hl
    have h := hf 0 f rfl
    obtain ⟨y, hK, hQ⟩   := he.go h (hw 0 f x rfl rfl)
    obtain ⟨z, hK2, hQ2⟩ := hr.go (cs := cs) (xs := xs) (by omega) (by simpa using hx) (fun i f' hi => hf (i + 1) f' hi) (fun i f' x' hi hi' => hw (i + 1) f' x' hi hi')
    refine ⟨(y, z), ⟨(cs.drop o).take a.sz, (cs.drop o).drop a.sz, (List.take_append_drop _ _).symm, ?_, ?_⟩, hQ, hQ2⟩
    · rw [ho, hc] at hK
      exact hK
    · rw [List.drop_drop, ho']
      exact hK2

theorem opens_struct {P : Program} {t : TypeId} {fs : Array Field} {l : List Field} {α : Type} {d : Kd α} {Q : α → Prop} (ht : P.underlying t = some (.struct fs)) (hfs : fs.toList = l) (hc : P.cellsOf t = d.sz) (hf : OpensF P l 0 d Q) : Opens P t d Q := by
  constructor
  intro H enc w base spare held fuel cs x h hw
  obtain ⟨xs, n, _, rfl, hl, hx, hg⟩ := DataW.trod_struct ht h
  subst hfs
  have := hf.go (enc := enc) (w := w) (base := base) (spare := spare) (held := held) (n := n) (cs := cs) (xs := xs) (by omega) (by simpa using hx) (fun i f hi => hg i f (by simpa using hi)) (fun i f y hi hy m hm => hw m (by
    simp only [DataW.weights, ht]
    exact DataW.weights_mem_each (j := i) (t := f.type) (d := y.1) (by rw [List.getElem?_map, hi]; rfl) (by rw [List.getElem?_map, hy]; rfl) m hm))
  simpa using this

theorem opens_iso {P : Program} {t : TypeId} {α β : Type} {d : Kd α} {Q : α → Prop} (f : β → α) (g : α → β) (hfg : ∀ y, f (g y) = y) (h : Opens P t d Q) : Opens P t (Kd.iso d f) (fun x => Q (f x)) := by
  constructor
  intro H enc w base spare held fuel cs x h1 hw
  obtain ⟨y, hK, hQ⟩ := h.go h1 hw
  exact ⟨g y, by show d.K w (f (g y)) cs; rw [hfg]; exact hK, by show Q (f (g y)); rw [hfg]; exact hQ⟩

/-- The weights of one argument. -/
theorem weights_of {H : Type} {P : Program} {ts : List TypeId} {ds : List (DataW H)} (h : (DataW.weightsEach P ts ds).all (· ≤ reachBytes) = true) {j : Nat} {t : TypeId} {d : DataW H} (ht : ts[j]? = some t) (hd : ds[j]? = some d) : ∀ n ∈ d.weights P t, n ≤ reachBytes := fun n hn => by
  simpa using List.all_eq_true.1 h n (DataW.weights_mem_each ht hd n hn)

/-- An argument opened by its type. -/
theorem open_arg {H : Type} {enc : TypeId × Value → H} {P : Program} {w : World} {base : Nat} {spare : Nat → Bool} {held : Bool} {t : TypeId} {v : Value} {d : DataW H} {ps : List MemPlace} {α : Type} {k : Kd α} {Q : α → Prop} (ho : Opens P t k Q)
    (h : DataW.Trod enc P w base spare held t v d ps) (hw : ∀ n ∈ d.weights P t, n ≤ reachBytes) : ∃ y, k.K w y v.cells.toList ∧ Q y := by
  obtain ⟨fuel, hf⟩ := h
  exact ho.go hf hw

/-- A slice opened by its type. -/
theorem open_slice_arg {H : Type} {enc : TypeId × Value → H} {P : Program} {w : World} {base : Nat} {spare : Nat → Bool} {held : Bool} {t : TypeId} {e : Nat} {A : Option Addr} {len cap : Nat} {d : DataW H} {ps : List MemPlace} {α : Type} {k : Kd α} {Q : List α → Prop} (ho : Opens P t (Kd.slice e k) Q)
    (h : DataW.Trod enc P w base spare held t (.slice A len cap) d ps) (hw : ∀ n ∈ d.weights P t, n ≤ reachBytes) : ∃ l, len = l.length ∧ l.length ≤ cap ∧ k.C w A l.length l ∧ Q l := by
  obtain ⟨l, ⟨A', c, e1, hl, hC⟩, hQ⟩ := open_arg ho h hw
  simp [Value.cells] at e1
  obtain ⟨rfl, rfl, rfl⟩ := e1
  exact ⟨l, rfl, hl, hC, hQ⟩
end Go.Proofs.YtkcpgaplpmbmoaaGreat.Opn
