/- NetPulls: proved for all arguments; no condition. -/
import Derived.Test.YtialhfhipoeppaaPAx6
namespace Go.Proofs.Ytialhfhipoeppaa.Pure
open Go.RowKit Go.Proofs.Ytialhfhipoeppaa.PA Go.Proofs.YtialhfhipoeppaaW.PrintWords Go.Proofs.YtialhfhipoeppaaW.PrintLast Go.Proofs.YtialhfhipoeppaaW.PrintMore
set_option linter.unusedVariables false
set_option linter.unusedSimpArgs false

theorem wr (x : Int) (h : -9223372036854775808 ≤ x ∧ x ≤ 9223372036854775807) : wrap64 x = x := by
  unfold wrap64
  omega
theorem drop_T39 (l : List S39) (i : Nat) (h : i < l.length) : l.drop i = rd_T39 l (i : Int) :: l.drop (i + 1) := by
  rw [List.drop_eq_getElem_cons h]
  congr 1
  simp [rd_T39, List.getD_eq_getElem?_getD, h]
theorem take_T39 (l : List S39) (i : Nat) (h : i < l.length) : l.take (i + 1) = l.take i ++ [rd_T39 l (i : Int)] := by
  rw [List.take_succ_eq_append_getElem h]
  congr 2
  simp [rd_T39, List.getD_eq_getElem?_getD, h]
/-- A packet that may not be. -/
def badB (p : S39) : Bool := !(decide (0 ≤ p.f0 ∧ p.f0 < 16 ∧ 0 ≤ p.f1 ∧ p.f1 < 16 ∧ p.f0 ≠ p.f1 ∧ p.f2.size ≤ 40000))
theorem bad_is (p : S39) : net_bad.f p.f0 p.f1 p.f2 = some (badB p) := by
  unfold net_bad.f net_org.f badB
  by_cases h0 : p.f0 ≥ 0 <;> by_cases h1 : p.f0 < 16 <;> by_cases h2 : p.f1 ≥ 0 <;> by_cases h3 : p.f1 < 16 <;> by_cases h4 : p.f0 = p.f1 <;> by_cases h5 : p.f2.size ≤ 40000 <;> simp [h0, h1, h2, h3, h4, h5] <;> omega
theorem packet_is (p : S39) : ententeref31_packet.f p.f0 p.f1 p.f2 = some (!badB p) := by
  have e0 : (p.f0 ≤ 15) = (p.f0 < 16) := propext (by omega)
  have e1 : (p.f1 ≤ 15) = (p.f1 < 16) := propext (by omega)
  unfold ententeref31_packet.f badB
  simp only [e0, e1]
  by_cases h0 : p.f0 ≥ 0 <;> by_cases h1 : p.f0 < 16 <;> by_cases h2 : p.f1 ≥ 0 <;> by_cases h3 : p.f1 < 16 <;> by_cases h4 : p.f0 = p.f1 <;> by_cases h5 : p.f2.size ≤ 40000 <;> simp [h0, h1, h2, h3, h4, h5] <;> omega
theorem index_loop (l : List S39) (hl : l.length ≤ 1000000) (d : Nat) : ∀ i : Nat, i + d = l.length →
    ∃ r, Ev (fun k => api_Packet_26.l0 k l (l.length : Int) (i : Int)) r ∧ decide (r ≥ 0) = (l.drop i).any badB := by
  induction d with
  | zero =>
    intro i hi
    refine ⟨-1, Ev.step (f := fun _ => some (-1)) (fun k => ?_) (Ev.now _), ?_⟩
    · rw [api_Packet_26.l0, if_neg (by omega)]
    · rw [List.drop_eq_nil_of_le (by omega)]
      rfl
  | succ d ih =>
    intro i hi
    have hd := drop_T39 l i (by omega)
    have hb := bad_is (rd_T39 l (i : Int))
    rw [hd, List.any_cons]
    by_cases c : badB (rd_T39 l (i : Int)) = true
    · refine ⟨(i : Int), Ev.step (f := fun _ => some (i : Int)) (fun k => ?_) (Ev.now _), ?_⟩
      · rw [api_Packet_26.l0, if_pos (by omega), if_pos (by omega), if_pos (by omega), hb, Option.bind_some, if_pos c]
      · rw [c, Bool.true_or]
        exact decide_eq_true (by omega)
    · obtain ⟨r, h1, h2⟩ := ih (i + 1) (by omega)
      refine ⟨r, Ev.step (fun k => ?_) h1, ?_⟩
      · rw [api_Packet_26.l0, if_pos (by omega), if_pos (by omega), if_pos (by omega), hb, Option.bind_some, if_neg c, wr _ (by omega)]
        rfl
      · rw [h2]
        simp [c]
theorem contains_ev (l : List S39) (hl : l.length ≤ 1000000) (a : Int) : Ev (fun k => api_Packet_21.f k l a) (l.any badB) := by
  obtain ⟨r, h1, h2⟩ := index_loop l hl l.length 0 (by omega)
  rw [List.drop_zero] at h2
  rw [← h2]
  exact Ev.bind (g := fun k => api_Packet_26.f k l a) (f := fun _ t => some (decide (t ≥ 0))) h1 (Ev.now _)
def mayI (l : List S39) : Int := if l.length > 400 then 2 else if l.any badB = true then 2 else 0
theorem may_ev (l : List S39) (hl : l.length ≤ 1000000) : Ev (fun k => net_May.f k l) (mayI l) := by
  unfold net_May.f mayI
  by_cases c : l.length > 400
  · rw [if_pos c]
    exact Ev.congr (fun k => if_pos (by omega)) (Ev.now _)
  · rw [if_neg c]
    refine Ev.congr (fun k => if_neg (by omega)) ?_
    refine Ev.bind (contains_ev l hl 0) ?_
    by_cases b : l.any badB = true
    · simp only [if_pos b]
      exact Ev.now _
    · simp only [if_neg b]
      exact Ev.now _
theorem may_le (l : List S39) (h : mayI l = 0) : l.length ≤ 400 := by
  unfold mayI at h
  by_cases c : l.length > 400
  · rw [if_pos c] at h
    omega
  · omega
theorem packets_loop (l : List S39) (hl : l.length ≤ 1000000) (d : Nat) : ∀ i : Nat, i + d = l.length →
    Ev (fun k => ententeref31_packets.l0 k l (i : Int)) (!(l.drop i).any badB) := by
  induction d with
  | zero =>
    intro i hi
    refine Ev.step (f := fun _ => some (!(l.drop i).any badB)) (fun k => ?_) (Ev.now _)
    rw [ententeref31_packets.l0, if_neg (by omega), List.drop_eq_nil_of_le (by omega)]
    rfl
  | succ d ih =>
    intro i hi
    have hd := drop_T39 l i (by omega)
    have hb := packet_is (rd_T39 l (i : Int))
    rw [hd, List.any_cons]
    by_cases c : badB (rd_T39 l (i : Int)) = true
    · refine Ev.step (f := fun _ => some (!(badB (rd_T39 l (i : Int)) || (l.drop (i + 1)).any badB))) (fun k => ?_) (Ev.now _)
      rw [ententeref31_packets.l0, if_pos (by omega), if_pos (by omega), hb, Option.bind_some, c]
      rfl
    · have c' : badB (rd_T39 l (i : Int)) = false := by simpa using c
      rw [c', Bool.false_or]
      refine Ev.step (fun k => ?_) (ih (i + 1) (by omega))
      rw [ententeref31_packets.l0, if_pos (by omega), if_pos (by omega), hb, Option.bind_some, c', if_pos (by rfl), wr _ (by omega)]
      rfl
theorem packets_ev (l : List S39) (hl : l.length ≤ 1000000) : Ev (fun k => ententeref31_packets.f k l) (!l.any badB) := by
  have := packets_loop l hl l.length 0 (by omega)
  rw [List.drop_zero] at this
  exact this
theorem rmay_ev (l : List S39) (hl : l.length ≤ 1000000) : Ev (fun k => ententeref31_May.f k l) (mayI l) := by
  unfold ententeref31_May.f mayI
  by_cases c : l.length > 400
  · rw [if_pos c]
    exact Ev.congr (fun k => if_pos (by omega)) (Ev.now _)
  · rw [if_neg c]
    refine Ev.congr (fun k => if_neg (by omega)) ?_
    refine Ev.bind (packets_ev l hl) ?_
    by_cases b : l.any badB = true
    · rw [if_pos b]
      exact Ev.congr (fun k => by rw [b]; rfl) (Ev.now _)
    · rw [if_neg b]
      exact Ev.congr (fun k => by rw [show l.any badB = false by simpa using b]; rfl) (Ev.now _)
theorem concat_ev (a b : List S39) (h : a.length + b.length ≤ 1000000) : Ev (fun k => api_Packet_23.f k [a, b]) (a ++ b) := by
  have e0 : rd_L3 [a, b] 0 = a := rfl
  have e1 : rd_L3 [a, b] 1 = b := rfl
  have w0 : wrap64 (0 + (a.length : Int)) = (a.length : Int) := by rw [wr _ (by omega)]; omega
  have w1 : wrap64 ((a.length : Int) + (b.length : Int)) = ((a ++ b).length : Int) := by rw [wr _ (by omega), List.length_append]; omega
  have hab : (a ++ b).length = a.length + b.length := List.length_append
  have s1 : wrap64 (0 + 1) = 1 := by unfold wrap64; omega
  have s2 : wrap64 (1 + 1) = 2 := by unfold wrap64; omega
  have q0 : ((([a, b] : List (List S39)).length : Nat) : Int) = 2 := rfl
  have n0 : (([] : List S39) ++ a) = a := rfl
  unfold api_Packet_23.f
  refine Ev.step (f := fun k => api_Packet_23.l0 k [a, b] (a.length : Int) [a, b] 2 1) (fun k => ?_) ?_
  · rw [api_Packet_23.l0, q0, if_pos (by omega), if_pos (by omega), if_pos (by omega), e0, w0, if_neg (by omega), s1]
  refine Ev.step (f := fun k => api_Packet_23.l0 k [a, b] ((a ++ b).length : Int) [a, b] 2 2) (fun k => ?_) ?_
  · rw [api_Packet_23.l0, q0, if_pos (by omega), if_pos (by omega), if_pos (by omega), e1, w1, if_neg (by omega), s2]
  refine Ev.step (f := fun k => api_Packet_23.l1 k [] [a, b] 2 0) (fun k => ?_) ?_
  · rw [api_Packet_23.l0, if_neg (by omega), q0]
    unfold api_Packet_28.f
    rw [if_pos ⟨rfl, by omega, by omega⟩, Option.bind_some]
  refine Ev.step (f := fun k => api_Packet_23.l1 k a [a, b] 2 1) (fun k => ?_) ?_
  · rw [api_Packet_23.l1, q0, if_pos (by omega), if_pos (by omega), if_pos (by omega), e0, if_pos (by rw [List.length_nil]; omega), s1, n0]
  refine Ev.step (f := fun k => api_Packet_23.l1 k (a ++ b) [a, b] 2 2) (fun k => ?_) ?_
  · rw [api_Packet_23.l1, q0, if_pos (by omega), if_pos (by omega), if_pos (by omega), e1, if_pos (by omega), s2]
  refine Ev.step (f := fun _ => some (a ++ b)) (fun k => ?_) (Ev.now _)
  rw [api_Packet_23.l1, if_neg (by omega)]
def PUT (l more : List S39) : List S39 × Int := if mayI l = 0 then (if more.any badB = true then ([], 2) else ((l ++ more).take 400, 0)) else ([], 2)
theorem put_ev (l more : List S39) (hl : l.length ≤ 500000) (hm : more.length ≤ 400000) : Ev (fun k => net_Put.f k l more) (PUT l more) := by
  unfold net_Put.f PUT
  refine Ev.bind (may_ev l (by omega)) ?_
  by_cases c : mayI l = 0
  · rw [if_pos c]
    refine Ev.congr (fun k => if_pos c) ?_
    refine Ev.bind (contains_ev more (by omega) 0) ?_
    by_cases b : more.any badB = true
    · rw [if_pos b]
      exact Ev.congr (fun k => if_pos b) (Ev.now _)
    · rw [if_neg b]
      refine Ev.congr (fun k => if_neg b) ?_
      refine Ev.bind (concat_ev l more (by omega)) ?_
      have m0 : 0 ≤ mn (((l ++ more).length : Nat) : Int) 400 := by unfold mn; omega
      have m1 : mn (((l ++ more).length : Nat) : Int) 400 ≤ (((l ++ more).length : Nat) : Int) := by unfold mn; omega
      have m2 : (l ++ more).take (mn (((l ++ more).length : Nat) : Int) 400).toNat = (l ++ more).take 400 := by
        by_cases g : (l ++ more).length ≤ 400
        · rw [List.take_of_length_le (by unfold mn; omega), List.take_of_length_le g]
        · rw [show (mn (((l ++ more).length : Nat) : Int) 400).toNat = 400 by unfold mn; omega]
      exact Ev.congr (fun k => by rw [if_pos m0, if_pos m1, m2]) (Ev.now _)
  · rw [if_neg c]
    exact Ev.congr (fun k => if_neg c) (Ev.now _)
theorem eta39 (x : S39) : (⟨x.f0, x.f1, x.f2⟩ : S39) = x := rfl
theorem rput_loop (l more : List S39) (hl : l.length ≤ 400) (hm : more.length ≤ 400000) (d : Nat) : ∀ i : Nat, i ≤ (l ++ more).length → i ≤ 400 → (400 - i) ≤ d →
    Ev (fun k => ententeref31_Put.l0 k l more ((l ++ more).take i) (i : Int)) ((l ++ more).take 400, 0) := by
  have hab : (l ++ more).length = l.length + more.length := List.length_append
  have done : ∀ i : Nat, i ≤ (l ++ more).length → (i = 400 ∨ i = (l ++ more).length) → i ≤ 400 → ∀ b, b = false → Ev (fun k => ententeref31_Put.j2 k l more ((l ++ more).take i) (i : Int) b) ((l ++ more).take 400, 0) := by
    intro i h0 h1 h2 b hb
    subst hb
    refine Ev.step (f := fun _ => some ((l ++ more).take i, 0)) (fun k => ?_) ?_
    · rw [ententeref31_Put.j2, if_neg (by decide)]
    · rw [show (l ++ more).take i = (l ++ more).take 400 by
        rcases h1 with h1 | h1
        · rw [h1]
        · rw [List.take_of_length_le (by omega), List.take_of_length_le (by omega)]]
      exact Ev.now _
  induction d with
  | zero =>
    intro i h0 h1 h2
    have e : wrap64 ((l.length : Int) + (more.length : Int)) = ((l ++ more).length : Int) := by rw [wr _ (by omega)]; omega
    by_cases c : i < (l ++ more).length
    · refine Ev.step (fun k => ?_) (done i h0 (.inl (by omega)) h1 (decide ((i : Int) < 400)) (decide_eq_false (by omega)))
      rw [ententeref31_Put.l0, e, if_pos (by omega)]
    · refine Ev.step (fun k => ?_) (done i h0 (.inr (by omega)) h1 false rfl)
      rw [ententeref31_Put.l0, e, if_neg (by omega)]
  | succ d ih =>
    intro i h0 h1 h2
    have e : wrap64 ((l.length : Int) + (more.length : Int)) = ((l ++ more).length : Int) := by rw [wr _ (by omega)]; omega
    by_cases c : i < (l ++ more).length
    · by_cases g : i < 400
      · have ht : ((l ++ more).take i).length < 4398046511104 := by rw [List.length_take]; omega
        have hs := take_T39 (l ++ more) i c
        have := ih (i + 1) (by omega) (by omega) (by omega)
        rw [hs] at this
        refine Ev.step (f := fun k => ententeref31_Put.j2 k l more ((l ++ more).take i) (i : Int) true) (fun k => ?_) ?_
        · rw [ententeref31_Put.l0, e, if_pos (by omega), decide_eq_true (show (i : Int) < 400 by omega)]
        refine Ev.step (fun k => ?_) this
        rw [ententeref31_Put.j2, if_pos rfl]
        by_cases f : i < l.length
        · rw [if_pos (by omega), if_pos (by omega), if_pos ht, eta39, wr _ (by omega)]
          rw [show rd_T39 l (i : Int) = rd_T39 (l ++ more) (i : Int) by simp [rd_T39, List.getD_eq_getElem?_getD, List.getElem?_append_left f]]
          rfl
        · have w1 : wrap64 ((i : Int) - (l.length : Int)) = ((i - l.length : Nat) : Int) := by rw [wr _ (by omega)]; omega
          rw [if_neg (by omega), w1, if_pos (by omega), if_pos (by omega), if_pos ht, eta39, wr _ (by omega)]
          rw [show rd_T39 more ((i - l.length : Nat) : Int) = rd_T39 (l ++ more) (i : Int) by simp [rd_T39, List.getD_eq_getElem?_getD, List.getElem?_append_right (Nat.le_of_not_lt f)]]
          rfl
      · refine Ev.step (fun k => ?_) (done i h0 (.inl (by omega)) h1 (decide ((i : Int) < 400)) (decide_eq_false (by omega)))
        rw [ententeref31_Put.l0, e, if_pos (by omega)]
    · refine Ev.step (fun k => ?_) (done i h0 (.inr (by omega)) h1 false rfl)
      rw [ententeref31_Put.l0, e, if_neg (by omega)]
theorem rput_ev (l more : List S39) (hl : l.length ≤ 500000) (hm : more.length ≤ 400000) : Ev (fun k => ententeref31_Put.f k l more) (PUT l more) := by
  unfold ententeref31_Put.f PUT
  refine Ev.bind (rmay_ev l (by omega)) ?_
  have refused : Ev (fun k => ententeref31_Put.j0 k l more true) ([], 2) :=
    Ev.step (f := fun _ => some ([], 2)) (fun k => by rw [ententeref31_Put.j0, if_pos rfl]) (Ev.now _)
  by_cases c : mayI l = 0
  · rw [if_pos c]
    refine Ev.congr (fun k => if_pos c) ?_
    refine Ev.bind (packets_ev more (by omega)) ?_
    by_cases b : more.any badB = true
    · rw [if_pos b, b]
      exact refused
    · rw [if_neg b, show more.any badB = false by simpa using b]
      have := rput_loop l more (may_le l c) hm 400 0 (by omega) (by omega) (by omega)
      refine Ev.step (fun k => ?_) this
      rw [show (!!false) = false from rfl, ententeref31_Put.j0, if_neg (by decide)]
      rfl
  · rw [if_neg c]
    exact Ev.congr (fun k => if_neg c) refused
theorem same_loop (a : List S39) (hl : a.length ≤ 1000000) (d : Nat) : ∀ i : Nat, i + d = a.length → Ev (fun k => ententeref31_Same.l0 k a a (i : Int)) true := by
  induction d with
  | zero =>
    intro i hi
    refine Ev.step (f := fun _ => some true) (fun k => ?_) (Ev.now _)
    rw [ententeref31_Same.l0, if_neg (by omega)]
  | succ d ih =>
    intro i hi
    refine Ev.step (fun k => ?_) (ih (i + 1) (by omega))
    rw [ententeref31_Same.l0, if_pos (by omega), if_pos (by omega), if_pos (by omega), if_neg (by simp), wr _ (by omega)]
    rfl
theorem same_ev (a : List S39) (hl : a.length ≤ 1000000) : Ev (fun k => ententeref31_Same.f k a a) true :=
  Ev.congr (fun k => if_pos rfl) (same_loop a hl a.length 0 (by omega))
theorem put_len (l more : List S39) : (PUT l more).1.length ≤ 400 := by
  unfold PUT
  split
  · split
    · simp
    · rw [List.length_take]; omega
  · simp
theorem awake_ev : Ev (fun k => ententelaw31_awake.f k) true := Ev.of ententelaw31_awake.mono (k := 30) (by decide +kernel)
theorem awake_ends : Ev (fun k => (ententelaw31_awake.f k).bind fun t => some t) true := Ev.bind (f := fun _ t => some t) awake_ev (Ev.now _)
def PU (l : List S39) (i : Int) : Int × Int × ByteArray × List S39 × Int :=
  if mayI l = 0 then (if i < 0 then (0, 0, ⟨#[]⟩, [], 320) else if i ≥ (l.length : Int) then (0, 0, ⟨#[]⟩, [], 320) else ((rd_T39 l i).f0, (rd_T39 l i).f1, (rd_T39 l i).f2, l.take i.toNat ++ l.drop (i + 1).toNat, 0)) else (0, 0, ⟨#[]⟩, [], 2)
theorem pull_ev (l : List S39) (i : Int) (hl : l.length ≤ 1000000) : Ev (fun k => net_Pull.f k l i) (PU l i) := by
  unfold net_Pull.f PU
  refine Ev.bind (may_ev l (by omega)) ?_
  by_cases c : mayI l = 0
  · rw [if_pos c]
    refine Ev.congr (fun k => if_pos c) ?_
    by_cases c1 : i < 0
    · rw [if_pos c1]
      exact Ev.congr (fun k => if_pos c1) (Ev.now _)
    · rw [if_neg c1]
      refine Ev.congr (fun k => if_neg c1) ?_
      by_cases c2 : i ≥ (l.length : Int)
      · rw [if_pos c2]
        exact Ev.congr (fun k => if_pos c2) (Ev.now _)
      · rw [if_neg c2]
        refine Ev.congr (fun k => if_neg c2) ?_
        have e : wrap64 (i + 1) = i + 1 := wr _ (by omega)
        refine Ev.congr (fun k => by rw [if_pos (by omega), if_pos (by omega), if_pos (by omega), e, if_pos (by omega), if_pos (by omega)]) ?_
        refine Ev.bind (concat_ev (l.take i.toNat) (l.drop (i + 1).toNat) (by rw [List.length_take, List.length_drop]; omega)) ?_
        exact Ev.now _
  · rw [if_neg c]
    exact Ev.congr (fun k => if_neg c) (Ev.now _)
theorem rpull_loop (l : List S39) (n : Nat) (hl : l.length ≤ 1000000) (hn : n < l.length) (d : Nat) : ∀ i : Nat, i + d = l.length →
    Ev (fun k => ententeref31_Pull.l0 k l (n : Int) (l.take (min i n) ++ (l.take i).drop (n + 1)) (i : Int)) ((rd_T39 l (n : Int)).f0, (rd_T39 l (n : Int)).f1, (rd_T39 l (n : Int)).f2, l.take n ++ l.drop (n + 1), 0) := by
  induction d with
  | zero =>
    intro i hi
    refine Ev.step (f := fun _ => some ((rd_T39 l (n : Int)).f0, (rd_T39 l (n : Int)).f1, (rd_T39 l (n : Int)).f2, l.take n ++ l.drop (n + 1), 0)) (fun k => ?_) (Ev.now _)
    rw [ententeref31_Pull.l0, if_neg (by omega), if_pos (by omega), if_pos (by omega), show min i n = n by omega, List.take_of_length_le (show l.length ≤ i by omega)]
  | succ d ih =>
    intro i hi
    have hs := take_T39 l i (by omega)
    have := ih (i + 1) (by omega)
    by_cases c : i = n
    · subst c
      rw [show min (i + 1) i = i by omega, List.drop_eq_nil_of_le (by rw [List.length_take]; omega)] at this
      rw [show min i i = i by omega, List.drop_eq_nil_of_le (by rw [List.length_take]; omega)]
      refine Ev.step (fun k => ?_) this
      rw [ententeref31_Pull.l0, if_pos (by omega), if_pos rfl, wr _ (by omega)]
      rfl
    · have e : l.take (min (i + 1) n) ++ (l.take (i + 1)).drop (n + 1) = (l.take (min i n) ++ (l.take i).drop (n + 1)) ++ [rd_T39 l (i : Int)] := by
        by_cases g : i < n
        · rw [show min (i + 1) n = i + 1 by omega, show min i n = i by omega, List.drop_eq_nil_of_le (by rw [List.length_take]; omega), List.drop_eq_nil_of_le (by rw [List.length_take]; omega), hs]
          simp
        · rw [show min (i + 1) n = n by omega, show min i n = n by omega, hs, List.drop_append_of_le_length (by rw [List.length_take]; omega), List.append_assoc]
      rw [e] at this
      have hlen : (l.take (min i n) ++ (l.take i).drop (n + 1)).length < 4398046511104 := by simp; omega
      refine Ev.step (fun k => ?_) this
      rw [ententeref31_Pull.l0, if_pos (by omega), if_neg (by omega), if_pos (by omega), if_pos hlen, eta39, wr _ (by omega)]
      rfl
theorem rpull_ev (l : List S39) (i : Int) (hl : l.length ≤ 1000000) : Ev (fun k => ententeref31_Pull.f k l i) (PU l i) := by
  unfold ententeref31_Pull.f PU
  refine Ev.bind (rmay_ev l (by omega)) ?_
  have refused : Ev (fun k => ententeref31_Pull.j0 k l i true) (0, 0, ⟨#[]⟩, [], 320) :=
    Ev.step (f := fun _ => some (0, 0, ⟨#[]⟩, [], 320)) (fun k => by rw [ententeref31_Pull.j0, if_pos rfl]) (Ev.now _)
  by_cases c : mayI l = 0
  · rw [if_pos c]
    refine Ev.congr (fun k => if_pos c) ?_
    by_cases c1 : i < 0
    · rw [if_pos c1]
      exact Ev.congr (fun k => if_pos c1) refused
    · rw [if_neg c1]
      refine Ev.congr (fun k => if_neg c1) ?_
      by_cases c2 : i ≥ (l.length : Int)
      · rw [if_pos c2, decide_eq_true c2]
        exact refused
      · rw [if_neg c2, decide_eq_false c2]
        obtain ⟨n, rfl⟩ := Int.eq_ofNat_of_zero_le (show 0 ≤ i by omega)
        have := rpull_loop l n hl (by omega) l.length 0 (by omega)
        refine Ev.step (f := fun k => ententeref31_Pull.l0 k l (n : Int) [] 0) (fun k => by rw [ententeref31_Pull.j0, if_neg (by decide)]) ?_
        rw [show min 0 n = 0 by omega, List.take_zero, List.drop_nil, List.append_nil] at this
        rw [Int.toNat_natCast, show ((n : Int) + 1).toNat = n + 1 by omega]
        exact this
  · rw [if_neg c]
    exact Ev.congr (fun k => if_neg c) (Ev.now _)
theorem pull_len (l : List S39) (i : Int) (hl : l.length ≤ 1000) : (PU l i).2.2.2.1.length ≤ 2000 := by
  unfold PU
  split
  · split
    · simp
    · split
      · simp
      · simp; omega
  · simp
def DB (l : List S39) (i : Int) : List S39 × Int := if (PU l i).2.2.2.2 = 0 then PUT l [⟨(PU l i).1, (PU l i).2.1, (PU l i).2.2.1⟩] else ([], (PU l i).2.2.2.2)
theorem double_ev (l : List S39) (i : Int) (hl : l.length ≤ 1000) : Ev (fun k => net_Double.f k l i) (DB l i) := by
  unfold net_Double.f DB
  refine Ev.bind (pull_ev l i (by omega)) ?_
  by_cases c : (PU l i).2.2.2.2 = 0
  · rw [if_pos c]
    refine Ev.congr (fun k => if_pos c) ?_
    exact Ev.bind (put_ev l _ (by omega) (by simp)) (Ev.now _)
  · rw [if_neg c]
    exact Ev.congr (fun k => if_neg c) (Ev.now _)
theorem rdouble_ev (l : List S39) (i : Int) (hl : l.length ≤ 1000) : Ev (fun k => ententeref31_Double.f k l i) (DB l i) := by
  unfold ententeref31_Double.f DB
  refine Ev.bind (rpull_ev l i (by omega)) ?_
  by_cases c : (PU l i).2.2.2.2 = 0
  · rw [if_pos c]
    refine Ev.congr (fun k => if_pos c) ?_
    exact Ev.bind (rput_ev l _ (by omega) (by simp)) (Ev.now _)
  · rw [if_neg c]
    exact Ev.congr (fun k => if_neg c) (Ev.now _)
theorem double_len (l : List S39) (i : Int) : (DB l i).1.length ≤ 400 := by
  unfold DB
  split
  · exact put_len _ _
  · simp
theorem NetPulls : ententelaw31_NetPulls.Pure := by
  intro l0 a1 h0 h1
  refine Ev.rounds (g := fun k => ententelaw31_NetPulls.f k l0 a1) ?_
  unfold ententelaw31_NetPulls.f ententelaw31_few.f
  simp only [Option.bind_some, List.nil_append]
  by_cases c0 : (l0.length : Int) ≤ 900
  · rw [decide_eq_true c0]
    refine Ev.congr (fun k => if_pos rfl) ?_
    refine Ev.congr (fun k => if_pos (by rw [List.length_nil]; omega)) ?_
    refine Ev.bind (pull_ev l0 a1 (by omega)) ?_
    refine Ev.bind (rpull_ev l0 a1 (by omega)) ?_
    refine Ev.bind (double_ev l0 a1 (by omega)) ?_
    refine Ev.bind (rdouble_ev l0 a1 (by omega)) ?_
    refine Ev.congr (fun k => if_pos (by simp)) ?_
    refine Ev.bind (same_ev (PU l0 a1).2.2.2.1 (by have := pull_len l0 a1 (by omega); omega)) ?_
    refine Ev.congr (fun k => if_pos rfl) ?_
    refine Ev.congr (fun k => if_pos rfl) ?_
    refine Ev.bind (same_ev (DB l0 a1).1 (by have := double_len l0 a1; omega)) ?_
    refine Ev.congr (fun k => if_pos rfl) ?_
    refine Ev.congr (fun k => if_pos rfl) ?_
    refine Ev.bind (same_ev l0 (by omega)) ?_
    exact Ev.congr (fun k => if_pos rfl) awake_ends
  · rw [decide_eq_false c0]
    exact Ev.congr (fun k => if_neg (by decide)) awake_ends

end Go.Proofs.Ytialhfhipoeppaa.Pure
