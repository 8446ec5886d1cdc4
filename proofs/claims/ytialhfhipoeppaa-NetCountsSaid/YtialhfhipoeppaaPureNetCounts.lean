/- NetCounts: proved for all arguments; no condition. -/
import Derived.Test.YtialhfhipoeppaaPDx5
namespace Go.Proofs.Ytialhfhipoeppaa.Pure
open Go.RowKit Go.Proofs.Ytialhfhipoeppaa.PD Go.Proofs.YtialhfhipoeppaaW.PrintWords Go.Proofs.YtialhfhipoeppaaW.PrintLast Go.Proofs.YtialhfhipoeppaaW.PrintMore
set_option linter.unusedVariables false
set_option linter.unusedSimpArgs false

theorem wr (x : Int) (h : -9223372036854775808 ≤ x ∧ x ≤ 9223372036854775807) : wrap64 x = x := by
  unfold wrap64
  omega
theorem drop_T39 (l : List S39) (i : Nat) (h : i < l.length) : l.drop i = rd_T39 l (i : Int) :: l.drop (i + 1) := by
  rw [List.drop_eq_getElem_cons h]
  congr 1
  simp [rd_T39, List.getD_eq_getElem?_getD, h]
theorem take_T39 (l : List S39) (i : Nat) (h : i < l.length) : l.take (i + 1) = l.take i ++ [rd_T39 l (i : Int)] := by
  rw [List.take_succ_eq_append_getElem h]
  congr 2
  simp [rd_T39, List.getD_eq_getElem?_getD, h]
/-- A packet that may not be. -/

def badB (p : S39) : Bool := !(decide (0 ≤ p.f0 ∧ p.f0 < 16 ∧ 0 ≤ p.f1 ∧ p.f1 < 16 ∧ p.f0 ≠ p.f1 ∧ p.f2.size ≤ 40000))
theorem bad_is (p : S39) : net_bad.f p.f0 p.f1 p.f2 = some (badB p) := by
  unfold net_bad.f net_org.f badB
  by_cases h0 : p.f0 ≥ 0 <;> by_cases h1 : p.f0 < 16 <;> by_cases h2 : p.f1 ≥ 0 <;> by_cases h3 : p.f1 < 16 <;> by_cases h4 : p.f0 = p.f1 <;> by_cases h5 : p.f2.size ≤ 40000 <;> simp [h0, h1, h2, h3, h4, h5] <;> omega
theorem index_loop (l : List S39) (hl : l.length ≤ 1000000) (d : Nat) : ∀ i : Nat, i + d = l.length →
    ∃ r, Ev (fun k => api_Packet_26.l0 k l (l.length : Int) (i : Int)) r ∧ decide (r ≥ 0) = (l.drop i).any badB := by
  induction d with
  | zero =>
    intro i hi
    refine ⟨-1, Ev.step (f := fun _ => some (-1)) (fun k => ?_) (Ev.now _), ?_⟩
    · rw [api_Packet_26.l0, if_neg (by omega)]
    · rw [List.drop_eq_nil_of_le (by omega)]
      rfl
  | succ d ih =>
    intro i hi
    have hd := drop_T39 l i (by omega)
    have hb := bad_is (rd_T39 l (i : Int))
    rw [hd, List.any_cons]
    by_cases c : badB (rd_T39 l (i : Int)) = true
    · refine ⟨(i : Int), Ev.step (f := fun _ => some (i : Int)) (fun k => ?_) (Ev.now _), ?_⟩
      · rw [api_Packet_26.l0, if_pos (by omega), if_pos (by omega), if_pos (by omega), hb, Option.bind_some, if_pos c]
      · rw [c, Bool.true_or]
        exact decide_eq_true (by omega)
    · obtain ⟨r, h1, h2⟩ := ih (i + 1) (by omega)
      refine ⟨r, Ev.step (fun k => ?_) h1, ?_⟩
      · rw [api_Packet_26.l0, if_pos (by omega), if_pos (by omega), if_pos (by omega), hb, Option.bind_some, if_neg c, wr _ (by omega)]
        rfl
      · rw [h2]
        simp [c]
theorem contains_ev (l : List S39) (hl : l.length ≤ 1000000) (a : Int) : Ev (fun k => api_Packet_21.f k l a) (l.any badB) := by
  obtain ⟨r, h1, h2⟩ := index_loop l hl l.length 0 (by omega)
  rw [List.drop_zero] at h2
  rw [← h2]
  exact Ev.bind (g := fun k => api_Packet_26.f k l a) (f := fun _ t => some (decide (t ≥ 0))) h1 (Ev.now _)
def mayI (l : List S39) : Int := if l.length > 400 then 2 else if l.any badB = true then 2 else 0
theorem may_ev (l : List S39) (hl : l.length ≤ 1000000) : Ev (fun k => net_May.f k l) (mayI l) := by
  unfold net_May.f mayI
  by_cases c : l.length > 400
  · rw [if_pos c]
    exact Ev.congr (fun k => if_pos (by omega)) (Ev.now _)
  · rw [if_neg c]
    refine Ev.congr (fun k => if_neg (by omega)) ?_
    refine Ev.bind (contains_ev l hl 0) ?_
    by_cases b : l.any badB = true
    · simp only [if_pos b]
      exact Ev.now _
    · simp only [if_neg b]
      exact Ev.now _
theorem may_le (l : List S39) (h : mayI l = 0) : l.length ≤ 400 := by
  unfold mayI at h
  by_cases c : l.length > 400
  · rw [if_pos c] at h
    omega
  · omega
theorem concat_ev (a b : List S39) (h : a.length + b.length ≤ 1000000) : Ev (fun k => api_Packet_23.f k [a, b]) (a ++ b) := by
  have e0 : rd_L3 [a, b] 0 = a := rfl
  have e1 : rd_L3 [a, b] 1 = b := rfl
  have w0 : wrap64 (0 + (a.length : Int)) = (a.length : Int) := by rw [wr _ (by omega)]; omega
  have w1 : wrap64 ((a.length : Int) + (b.length : Int)) = ((a ++ b).length : Int) := by rw [wr _ (by omega), List.length_append]; omega
  have hab : (a ++ b).length = a.length + b.length := List.length_append
  have s1 : wrap64 (0 + 1) = 1 := by unfold wrap64; omega
  have s2 : wrap64 (1 + 1) = 2 := by unfold wrap64; omega
  have q0 : ((([a, b] : List (List S39)).length : Nat) : Int) = 2 := rfl
  have n0 : (([] : List S39) ++ a) = a := rfl
  unfold api_Packet_23.f
  refine Ev.step (f := fun k => api_Packet_23.l0 k [a, b] (a.length : Int) [a, b] 2 1) (fun k => ?_) ?_
  · rw [api_Packet_23.l0, q0, if_pos (by omega), if_pos (by omega), if_pos (by omega), e0, w0, if_neg (by omega), s1]
  refine Ev.step (f := fun k => api_Packet_23.l0 k [a, b] ((a ++ b).length : Int) [a, b] 2 2) (fun k => ?_) ?_
  · rw [api_Packet_23.l0, q0, if_pos (by omega), if_pos (by omega), if_pos (by omega), e1, w1, if_neg (by omega), s2]
  refine Ev.step (f := fun k => api_Packet_23.l1 k [] [a, b] 2 0) (fun k => ?_) ?_
  · rw [api_Packet_23.l0, if_neg (by omega), q0]
    unfold api_Packet_28.f
    rw [if_pos ⟨rfl, by omega, by omega⟩, Option.bind_some]
  refine Ev.step (f := fun k => api_Packet_23.l1 k a [a, b] 2 1) (fun k => ?_) ?_
  · rw [api_Packet_23.l1, q0, if_pos (by omega), if_pos (by omega), if_pos (by omega), e0, if_pos (by rw [List.length_nil]; omega), s1, n0]
  refine Ev.step (f := fun k => api_Packet_23.l1 k (a ++ b) [a, b] 2 2) (fun k => ?_) ?_
  · rw [api_Packet_23.l1, q0, if_pos (by omega), if_pos (by omega), if_pos (by omega), e1, if_pos (by omega), s2]
  refine Ev.step (f := fun _ => some (a ++ b)) (fun k => ?_) (Ev.now _)
  rw [api_Packet_23.l1, if_neg (by omega)]
def PUT (l more : List S39) : List S39 × Int := if mayI l = 0 then (if more.any badB = true then ([], 2) else ((l ++ more).take 400, 0)) else ([], 2)
theorem put_ev (l more : List S39) (hl : l.length ≤ 500000) (hm : more.length ≤ 400000) : Ev (fun k => net_Put.f k l more) (PUT l more) := by
  unfold net_Put.f PUT
  refine Ev.bind (may_ev l (by omega)) ?_
  by_cases c : mayI l = 0
  · rw [if_pos c]
    refine Ev.congr (fun k => if_pos c) ?_
    refine Ev.bind (contains_ev more (by omega) 0) ?_
    by_cases b : more.any badB = true
    · rw [if_pos b]
      exact Ev.congr (fun k => if_pos b) (Ev.now _)
    · rw [if_neg b]
      refine Ev.congr (fun k => if_neg b) ?_
      refine Ev.bind (concat_ev l more (by omega)) ?_
      have m0 : 0 ≤ mn (((l ++ more).length : Nat) : Int) 400 := by unfold mn; omega
      have m1 : mn (((l ++ more).length : Nat) : Int) 400 ≤ (((l ++ more).length : Nat) : Int) := by unfold mn; omega
      have m2 : (l ++ more).take (mn (((l ++ more).length : Nat) : Int) 400).toNat = (l ++ more).take 400 := by
        by_cases g : (l ++ more).length ≤ 400
        · rw [List.take_of_length_le (by unfold mn; omega), List.take_of_length_le g]
        · rw [show (mn (((l ++ more).length : Nat) : Int) 400).toNat = 400 by unfold mn; omega]
      exact Ev.congr (fun k => by rw [if_pos m0, if_pos m1, m2]) (Ev.now _)
  · rw [if_neg c]
    exact Ev.congr (fun k => if_neg c) (Ev.now _)
theorem eta39 (x : S39) : (⟨x.f0, x.f1, x.f2⟩ : S39) = x := rfl
theorem put_len (l more : List S39) : (PUT l more).1.length ≤ 400 := by
  unfold PUT
  split
  · split
    · simp
    · rw [List.length_take]; omega
  · simp
theorem awake_ev : Ev (fun k => ententelaw31_awake.f k) true := Ev.of ententelaw31_awake.mono (k := 30) (by decide +kernel)
theorem awake_ends : Ev (fun k => (ententelaw31_awake.f k).bind fun t => some t) true := Ev.bind (f := fun _ t => some t) awake_ev (Ev.now _)
def PU (l : List S39) (i : Int) : Int × Int × ByteArray × List S39 × Int :=
  if mayI l = 0 then (if i < 0 then (0, 0, ⟨#[]⟩, [], 320) else if i ≥ (l.length : Int) then (0, 0, ⟨#[]⟩, [], 320) else ((rd_T39 l i).f0, (rd_T39 l i).f1, (rd_T39 l i).f2, l.take i.toNat ++ l.drop (i + 1).toNat, 0)) else (0, 0, ⟨#[]⟩, [], 2)
theorem pull_ev (l : List S39) (i : Int) (hl : l.length ≤ 1000000) : Ev (fun k => net_Pull.f k l i) (PU l i) := by
  unfold net_Pull.f PU
  refine Ev.bind (may_ev l (by omega)) ?_
  by_cases c : mayI l = 0
  · rw [if_pos c]
    refine Ev.congr (fun k => if_pos c) ?_
    by_cases c1 : i < 0
    · rw [if_pos c1]
      exact Ev.congr (fun k => if_pos c1) (Ev.now _)
    · rw [if_neg c1]
      refine Ev.congr (fun k => if_neg c1) ?_
      by_cases c2 : i ≥ (l.length : Int)
      · rw [if_pos c2]
        exact Ev.congr (fun k => if_pos c2) (Ev.now _)
      · rw [if_neg c2]
        refine Ev.congr (fun k => if_neg c2) ?_
        have e : wrap64 (i + 1) = i + 1 := wr _ (by omega)
        refine Ev.congr (fun k => by rw [if_pos (by omega), if_pos (by omega), if_pos (by omega), e, if_pos (by omega), if_pos (by omega)]) ?_
        refine Ev.bind (concat_ev (l.take i.toNat) (l.drop (i + 1).toNat) (by rw [List.length_take, List.length_drop]; omega)) ?_
        exact Ev.now _
  · rw [if_neg c]
    exact Ev.congr (fun k => if_neg c) (Ev.now _)
theorem pull_len (l : List S39) (i : Int) (hl : l.length ≤ 1000) : (PU l i).2.2.2.1.length ≤ 2000 := by
  unfold PU
  split
  · split
    · simp
    · split
      · simp
      · simp; omega
  · simp
def DB (l : List S39) (i : Int) : List S39 × Int := if (PU l i).2.2.2.2 = 0 then PUT l [⟨(PU l i).1, (PU l i).2.1, (PU l i).2.2.1⟩] else ([], (PU l i).2.2.2.2)
theorem double_ev (l : List S39) (i : Int) (hl : l.length ≤ 1000) : Ev (fun k => net_Double.f k l i) (DB l i) := by
  unfold net_Double.f DB
  refine Ev.bind (pull_ev l i (by omega)) ?_
  by_cases c : (PU l i).2.2.2.2 = 0
  · rw [if_pos c]
    refine Ev.congr (fun k => if_pos c) ?_
    exact Ev.bind (put_ev l _ (by omega) (by simp)) (Ev.now _)
  · rw [if_neg c]
    exact Ev.congr (fun k => if_neg c) (Ev.now _)
theorem double_len (l : List S39) (i : Int) : (DB l i).1.length ≤ 400 := by
  unfold DB
  split
  · exact put_len _ _
  · simp
/-- Is a packet the one that is counted? -/
def eqB (x : S39) (a b : Int) (c : ByteArray) : Bool := (x.f0 == a && (x.f1 == b && (x.f2.toList == c.toList)))
def cntI (a b : Int) (c : ByteArray) : List S39 → Int
  | [] => 0
  | x :: l => (if eqB x a b c = true then 1 else 0) + cntI a b c l
theorem cnt_append (a b : Int) (c : ByteArray) (l m : List S39) : cntI a b c (l ++ m) = cntI a b c l + cntI a b c m := by
  induction l with
  | nil => simp [cntI]
  | cons x l ih =>
    rw [List.cons_append]
    simp only [cntI]
    rw [ih]
    omega
theorem cnt_range (a b : Int) (c : ByteArray) (l : List S39) : 0 ≤ cntI a b c l ∧ cntI a b c l ≤ (l.length : Int) := by
  induction l with
  | nil => simp [cntI]
  | cons x l ih =>
    simp only [cntI, List.length_cons]
    split <;> omega
theorem cnt_out (a b : Int) (c : ByteArray) (l : List S39) (n : Nat) (hn : n < l.length) : cntI a b c l = cntI a b c (l.take n ++ l.drop (n + 1)) + (if eqB (rd_T39 l (n : Int)) a b c = true then 1 else 0) := by
  have e : l = l.take n ++ (rd_T39 l (n : Int) :: l.drop (n + 1)) := by rw [← drop_T39 l n hn, List.take_append_drop]
  have h := congrArg (cntI a b c) e
  rw [cnt_append] at h
  simp only [cntI] at h
  rw [h, cnt_append]
  omega
theorem count_loop (a b : Int) (c : ByteArray) (l : List S39) (hl : l.length ≤ 1000000) (d : Nat) : ∀ (i : Nat) (n : Int), i + d = l.length → 0 ≤ n → n ≤ i →
    Ev (fun k => ententelaw31_count.l0 k l n (i : Int) a b c) (n + cntI a b c (l.drop i)) := by
  induction d with
  | zero =>
    intro i n hi h0 h1
    refine Ev.step (f := fun _ => some (n + cntI a b c (l.drop i))) (fun k => ?_) (Ev.now _)
    rw [ententelaw31_count.l0, if_neg (by omega), List.drop_eq_nil_of_le (by omega), cntI, Int.add_zero]
  | succ d ih =>
    intro i n hi h0 h1
    rw [drop_T39 l i (by omega), cntI]
    by_cases g : eqB (rd_T39 l (i : Int)) a b c = true
    · have := ih (i + 1) (n + 1) (by omega) (by omega) (by omega)
      rw [if_pos g, ← Int.add_assoc]
      refine Ev.step (fun k => ?_) this
      rw [ententelaw31_count.l0, if_pos (by omega), if_pos (by omega), wr (n + 1) (by omega), wr _ (by omega)]
      exact if_pos g
    · have := ih (i + 1) n (by omega) (by omega) (by omega)
      rw [if_neg g, Int.zero_add]
      refine Ev.step (fun k => ?_) this
      rw [ententelaw31_count.l0, if_pos (by omega), if_pos (by omega), wr ((i : Int) + 1) (by omega)]
      exact if_neg g
theorem count_ev (a b : Int) (c : ByteArray) (l : List S39) (hl : l.length ≤ 1000000) : Ev (fun k => ententelaw31_count.f k l a b c) (cntI a b c l) := by
  have := count_loop a b c l hl l.length 0 0 (by omega) (by omega) (by omega)
  rw [List.drop_zero, Int.zero_add] at this
  exact this
theorem may_no (l : List S39) (h : mayI l = 0) : l.any badB = false := by
  unfold mayI at h
  by_cases c : l.length > 400
  · rw [if_pos c] at h
    omega
  · rw [if_neg c] at h
    by_cases g : l.any badB = true
    · rw [if_pos g] at h
      omega
    · simpa using g
theorem may_mk (l : List S39) (h : l.length ≤ 400) (g : l.any badB = false) : mayI l = 0 := by
  unfold mayI
  rw [if_neg (by omega), if_neg (by rw [g]; decide)]
theorem put_one (l : List S39) (x : S39) (hl : l.length ≤ 300) (hm : mayI l = 0) (h : (PUT l [x]).2 = 0) : (PUT l [x]).1 = l ++ [x] ∧ mayI (l ++ [x]) = 0 := by
  unfold PUT at h ⊢
  rw [if_pos hm] at h ⊢
  by_cases b : [x].any badB = true
  · rw [if_pos b] at h
    exact absurd h (by decide)
  · rw [if_neg b]
    have hlen : (l ++ [x]).length = l.length + 1 := by rw [List.length_append, List.length_singleton]
    refine ⟨List.take_of_length_le (by omega), may_mk _ (by omega) ?_⟩
    rw [List.any_append, may_no l hm]
    simpa using b
theorem pull_one (l : List S39) (i : Int) (h : (PU l i).2.2.2.2 = 0) : ∃ n : Nat, i = (n : Int) ∧ n < l.length ∧ PU l i = ((rd_T39 l (n : Int)).f0, (rd_T39 l (n : Int)).f1, (rd_T39 l (n : Int)).f2, l.take n ++ l.drop (n + 1), 0) := by
  unfold PU at h ⊢
  by_cases c : mayI l = 0
  · rw [if_pos c] at h ⊢
    by_cases c1 : i < 0
    · rw [if_pos c1] at h
      exact absurd h (by decide)
    · rw [if_neg c1] at h ⊢
      by_cases c2 : i ≥ (l.length : Int)
      · rw [if_pos c2] at h
        exact absurd h (by decide)
      · rw [if_neg c2]
        obtain ⟨n, rfl⟩ := Int.eq_ofNat_of_zero_le (show 0 ≤ i by omega)
        exact ⟨n, rfl, by omega, by rw [Int.toNat_natCast, show ((n : Int) + 1).toNat = n + 1 by omega]⟩
  · rw [if_neg c] at h
    exact absurd h (by decide)
theorem may_out (l : List S39) (n : Nat) (hn : n < l.length) (h : mayI l = 0) : mayI (l.take n ++ l.drop (n + 1)) = 0 := by
  have h1 := may_no l h
  have h2 := may_le l h
  refine may_mk _ (by simp; omega) ?_
  rw [List.any_eq_false] at h1 ⊢
  intro x hx
  rcases List.mem_append.1 hx with hx | hx
  · exact h1 x (List.mem_of_mem_take hx)
  · exact h1 x (List.mem_of_mem_drop hx)
theorem counts_loop (acts : List S49) (ha : acts.length ≤ 200) (a b : Int) (c : ByteArray) (d : Nat) : ∀ (i : Nat) (l : List S39), i + d = acts.length → l.length ≤ i → mayI l = 0 →
    Ev (fun k => ententelaw31_NetCounts.l0 k acts l (cntI a b c l) (i : Int) a b c) true := by
  induction d with
  | zero =>
    intro i l hi hl hm
    refine Ev.step (fun k => ?_) awake_ends
    rw [ententelaw31_NetCounts.l0, if_neg (by omega)]
  | succ d ih =>
    intro i l hi hl hm
    have cr := cnt_range a b c l
    have next : ∀ m : List S39, m.length ≤ i + 1 → mayI m = 0 → Ev (fun k => ententelaw31_NetCounts.l0 k acts m (cntI a b c m) (wrap64 ((i : Int) + 1)) a b c) true := by
      intro m h1 h2
      have := ih (i + 1) m (by omega) h1 h2
      rw [wr _ (by omega)]
      exact this
    have join : ∀ m : List S39, m.length ≤ i + 1 → mayI m = 0 → Ev (fun k => ententelaw31_NetCounts.j2 k acts m (cntI a b c m) (i : Int) a b c) true := by
      intro m h1 h2
      refine Ev.step (fun k => by rw [ententelaw31_NetCounts.j2]) ?_
      refine Ev.bind (count_ev a b c m (by omega)) ?_
      refine Ev.congr (fun k => if_pos rfl) ?_
      refine Ev.bind (may_ev m (by omega)) ?_
      refine Ev.congr (fun k => if_pos h2) ?_
      exact next m h1 h2
    have grown : ∀ x : S39, (PUT l [x]).2 = 0 → cntI a b c (PUT l [x]).1 = cntI a b c l + (if eqB x a b c = true then 1 else 0) ∧ (PUT l [x]).1.length ≤ i + 1 ∧ mayI (PUT l [x]).1 = 0 := by
      intro x hx
      obtain ⟨h1, h2⟩ := put_one l x (by omega) hm hx
      rw [h1]
      refine ⟨?_, by rw [List.length_append, List.length_singleton]; omega, h2⟩
      rw [cnt_append]
      simp only [cntI]
      omega
    have e49 : R49 acts (i : Int) = rd_T49 acts (i : Int) := rfl
    have e39 : ∀ j : Int, R39 l j = rd_T39 l j := fun _ => rfl
    refine Ev.step (fun k => by rw [ententelaw31_NetCounts.l0, if_pos (by omega), if_pos (by omega)]) ?_
    by_cases k0 : (R49 acts (i : Int)).f0 = 0
    · refine Ev.congr (fun k => if_pos k0) ?_
      refine Ev.bind (put_ev l _ (by omega) (by simp)) ?_
      rw [eta39]
      by_cases ok : (PUT l [(R49 acts (i : Int)).f2]).2 = 0
      · obtain ⟨h1, h2, h3⟩ := grown _ ok
        have := join _ h2 h3
        refine Ev.congr (fun k => if_pos ok) ?_
        by_cases g : eqB (R49 acts (i : Int)).f2 a b c = true
        · rw [h1, if_pos g] at this
          exact Ev.congr (fun k => by rw [wr _ (by omega)]; exact if_pos g) this
        · rw [h1, if_neg g, Int.add_zero] at this
          exact Ev.congr (fun k => if_neg g) this
      · exact Ev.congr (fun k => if_neg ok) (next l (by omega) hm)
    · refine Ev.congr (fun k => if_neg k0) ?_
      by_cases k1 : (R49 acts (i : Int)).f0 = 1
      · refine Ev.congr (fun k => if_pos k1) ?_
        refine Ev.bind (pull_ev l (R49 acts (i : Int)).f1 (by omega)) ?_
        by_cases ok : (PU l (R49 acts (i : Int)).f1).2.2.2.2 = 0
        · obtain ⟨n, h1, h2, h3⟩ := pull_one l _ ok
          refine Ev.congr (fun k => if_pos ok) ?_
          rw [h3]
          have hc := cnt_out a b c l n h2
          have hr := cnt_range a b c (l.take n ++ l.drop (n + 1))
          have := join (l.take n ++ l.drop (n + 1)) (by simp; omega) (may_out l n h2 hm)
          by_cases g : eqB (rd_T39 l (n : Int)) a b c = true
          · rw [if_pos g] at hc
            rw [show cntI a b c (l.take n ++ l.drop (n + 1)) = cntI a b c l - 1 by omega] at this
            exact Ev.congr (fun k => by rw [wr _ (by omega)]; exact if_pos g) this
          · rw [if_neg g, Int.add_zero] at hc
            rw [← hc] at this
            exact Ev.congr (fun k => if_neg g) this
        · exact Ev.congr (fun k => if_neg ok) (next l (by omega) hm)
      · refine Ev.congr (fun k => if_neg k1) ?_
        by_cases k2 : (R49 acts (i : Int)).f0 = 2
        · refine Ev.congr (fun k => if_pos k2) ?_
          refine Ev.bind (double_ev l (R49 acts (i : Int)).f1 (by omega)) ?_
          by_cases ok : (DB l (R49 acts (i : Int)).f1).2 = 0
          · refine Ev.congr (fun k => if_pos ok) ?_
            unfold DB at ok
            by_cases op : (PU l (R49 acts (i : Int)).f1).2.2.2.2 = 0
            · rw [if_pos op] at ok
              obtain ⟨n, h1, h2, h3⟩ := pull_one l _ op
              have hD : DB l (R49 acts (i : Int)).f1 = PUT l [rd_T39 l (n : Int)] := by
                unfold DB
                rw [if_pos op, h3]
              rw [h3] at ok
              obtain ⟨q1, q2, q3⟩ := grown (rd_T39 l (n : Int)) ok
              have := join _ q2 q3
              rw [hD]
              refine Ev.congr (fun k => if_neg (by omega)) ?_
              rw [decide_eq_false (show ¬ (R49 acts (i : Int)).f1 ≥ (l.length : Int) by omega)]
              refine Ev.step (fun k => by rw [ententelaw31_NetCounts.j1, if_neg (by decide), if_pos (by omega), if_pos (by omega)]) ?_
              rw [h1]
              by_cases g : eqB (rd_T39 l (n : Int)) a b c = true
              · rw [q1, if_pos g] at this
                exact Ev.congr (fun k => by rw [wr _ (by omega)]; exact if_pos g) this
              · rw [q1, if_neg g, Int.add_zero] at this
                exact Ev.congr (fun k => if_neg g) this
            · rw [if_neg op] at ok
              exact absurd ok op
          · exact Ev.congr (fun k => if_neg ok) (next l (by omega) hm)
        · exact Ev.congr (fun k => if_neg k2) (join l (by omega) hm)
theorem NetCounts : ententelaw31_NetCounts.Pure := by
  intro l0 a b c h0 h1 h2 h3
  refine Ev.rounds (g := fun k => ententelaw31_NetCounts.f k l0 a b c) ?_
  unfold ententelaw31_NetCounts.f
  by_cases g : (l0.length : Int) > 200
  · exact Ev.congr (fun k => if_pos g) awake_ends
  · refine Ev.congr (fun k => if_neg g) ?_
    exact counts_loop l0 (by omega) a b c l0.length 0 [] (by omega) (by simp) (may_mk _ (by simp) (by simp))

end Go.Proofs.Ytialhfhipoeppaa.Pure
