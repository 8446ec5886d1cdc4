/- NetPuts: proved for all arguments; no condition. -/
import Derived.Test.YtialhfhipoeppaaPAx5
namespace Go.Proofs.Ytialhfhipoeppaa.Pure
open Go.RowKit Go.Proofs.Ytialhfhipoeppaa.PA Go.Proofs.YtialhfhipoeppaaW.PrintWords Go.Proofs.YtialhfhipoeppaaW.PrintLast Go.Proofs.YtialhfhipoeppaaW.PrintMore
set_option linter.unusedVariables false
set_option linter.unusedSimpArgs false

theorem wr (x : Int) (h : -9223372036854775808 ≤ x ∧ x ≤ 9223372036854775807) : wrap64 x = x := by
  unfold wrap64
  omega
theorem drop_T39 (l : List S39) (i : Nat) (h : i < l.length) : l.drop i = rd_T39 l (i : Int) :: l.drop (i + 1) := by
  rw [List.drop_eq_getElem_cons h]
  congr 1
  simp [rd_T39, List.getD_eq_getElem?_getD, h]
theorem take_T39 (l : List S39) (i : Nat) (h : i < l.length) : l.take (i + 1) = l.take i ++ [rd_T39 l (i : Int)] := by
  rw [List.take_succ_eq_append_getElem h]
  congr 2
  simp [rd_T39, List.getD_eq_getElem?_getD, h]
/-- A packet that may not be. -/
def badB (p : S39) : Bool := !(decide (0 ≤ p.f0 ∧ p.f0 < 16 ∧ 0 ≤ p.f1 ∧ p.f1 < 16 ∧ p.f0 ≠ p.f1 ∧ p.f2.size ≤ 40000))
theorem bad_is (p : S39) : net_bad.f p.f0 p.f1 p.f2 = some (badB p) := by
  unfold net_bad.f net_org.f badB
  by_cases h0 : p.f0 ≥ 0 <;> by_cases h1 : p.f0 < 16 <;> by_cases h2 : p.f1 ≥ 0 <;> by_cases h3 : p.f1 < 16 <;> by_cases h4 : p.f0 = p.f1 <;> by_cases h5 : p.f2.size ≤ 40000 <;> simp [h0, h1, h2, h3, h4, h5] <;> omega
theorem packet_is (p : S39) : ententeref31_packet.f p.f0 p.f1 p.f2 = some (!badB p) := by
  have e0 : (p.f0 ≤ 15) = (p.f0 < 16) := propext (by omega)
  have e1 : (p.f1 ≤ 15) = (p.f1 < 16) := propext (by omega)
  unfold ententeref31_packet.f badB
  simp only [e0, e1]
  by_cases h0 : p.f0 ≥ 0 <;> by_cases h1 : p.f0 < 16 <;> by_cases h2 : p.f1 ≥ 0 <;> by_cases h3 : p.f1 < 16 <;> by_cases h4 : p.f0 = p.f1 <;> by_cases h5 : p.f2.size ≤ 40000 <;> simp [h0, h1, h2, h3, h4, h5] <;> omega
theorem index_loop (l : List S39) (hl : l.length ≤ 1000000) (d : Nat) : ∀ i : Nat, i + d = l.length →
    ∃ r, Ev (fun k => api_Packet_26.l0 k l (l.length : Int) (i : Int)) r ∧ decide (r ≥ 0) = (l.drop i).any badB := by
  induction d with
  | zero =>
    intro i hi
    refine ⟨-1, Ev.step (f := fun _ => some (-1)) (fun k => ?_) (Ev.now _), ?_⟩
    · rw [api_Packet_26.l0, if_neg (by omega)]
    · rw [List.drop_eq_nil_of_le (by omega)]
      rfl
  | succ d ih =>
    intro i hi
    have hd := drop_T39 l i (by omega)
    have hb := bad_is (rd_T39 l (i : Int))
    rw [hd, List.any_cons]
    by_cases c : badB (rd_T39 l (i : Int)) = true
    · refine ⟨(i : Int), Ev.step (f := fun _ => some (i : Int)) (fun k => ?_) (Ev.now _), ?_⟩
      · rw [api_Packet_26.l0, if_pos (by omega), if_pos (by omega), if_pos (by omega), hb, Option.bind_some, if_pos c]
      · rw [c, Bool.true_or]
        exact decide_eq_true (by omega)
    · obtain ⟨r, h1, h2⟩ := ih (i + 1) (by omega)
      refine ⟨r, Ev.step (fun k => ?_) h1, ?_⟩
      · rw [api_Packet_26.l0, if_pos (by omega), if_pos (by omega), if_pos (by omega), hb, Option.bind_some, if_neg c, wr _ (by omega)]
        rfl
      · rw [h2]
        simp [c]
theorem contains_ev (l : List S39) (hl : l.length ≤ 1000000) (a : Int) : Ev (fun k => api_Packet_21.f k l a) (l.any badB) := by
  obtain ⟨r, h1, h2⟩ := index_loop l hl l.length 0 (by omega)
  rw [List.drop_zero] at h2
  rw [← h2]
  exact Ev.bind (g := fun k => api_Packet_26.f k l a) (f := fun _ t => some (decide (t ≥ 0))) h1 (Ev.now _)
def mayI (l : List S39) : Int := if l.length > 400 then 2 else if l.any badB = true then 2 else 0
theorem may_ev (l : List S39) (hl : l.length ≤ 1000000) : Ev (fun k => net_May.f k l) (mayI l) := by
  unfold net_May.f mayI
  by_cases c : l.length > 400
  · rw [if_pos c]
    exact Ev.congr (fun k => if_pos (by omega)) (Ev.now _)
  · rw [if_neg c]
    refine Ev.congr (fun k => if_neg (by omega)) ?_
    refine Ev.bind (contains_ev l hl 0) ?_
    by_cases b : l.any badB = true
    · simp only [if_pos b]
      exact Ev.now _
    · simp only [if_neg b]
      exact Ev.now _
theorem may_le (l : List S39) (h : mayI l = 0) : l.length ≤ 400 := by
  unfold mayI at h
  by_cases c : l.length > 400
  · rw [if_pos c] at h
    omega
  · omega
theorem packets_loop (l : List S39) (hl : l.length ≤ 1000000) (d : Nat) : ∀ i : Nat, i + d = l.length →
    Ev (fun k => ententeref31_packets.l0 k l (i : Int)) (!(l.drop i).any badB) := by
  induction d with
  | zero =>
    intro i hi
    refine Ev.step (f := fun _ => some (!(l.drop i).any badB)) (fun k => ?_) (Ev.now _)
    rw [ententeref31_packets.l0, if_neg (by omega), List.drop_eq_nil_of_le (by omega)]
    rfl
  | succ d ih =>
    intro i hi
    have hd := drop_T39 l i (by omega)
    have hb := packet_is (rd_T39 l (i : Int))
    rw [hd, List.any_cons]
    by_cases c : badB (rd_T39 l (i : Int)) = true
    · refine Ev.step (f := fun _ => some (!(badB (rd_T39 l (i : Int)) || (l.drop (i + 1)).any badB))) (fun k => ?_) (Ev.now _)
      rw [ententeref31_packets.l0, if_pos (by omega), if_pos (by omega), hb, Option.bind_some, c]
      rfl
    · have c' : badB (rd_T39 l (i : Int)) = false := by simpa using c
      rw [c', Bool.false_or]
      refine Ev.step (fun k => ?_) (ih (i + 1) (by omega))
      rw [ententeref31_packets.l0, if_pos (by omega), if_pos (by omega), hb, Option.bind_some, c', if_pos (by rfl), wr _ (by omega)]
      rfl
theorem packets_ev (l : List S39) (hl : l.length ≤ 1000000) : Ev (fun k => ententeref31_packets.f k l) (!l.any badB) := by
  have := packets_loop l hl l.length 0 (by omega)
  rw [List.drop_zero] at this
  exact this
theorem rmay_ev (l : List S39) (hl : l.length ≤ 1000000) : Ev (fun k => ententeref31_May.f k l) (mayI l) := by
  unfold ententeref31_May.f mayI
  by_cases c : l.length > 400
  · rw [if_pos c]
    exact Ev.congr (fun k => if_pos (by omega)) (Ev.now _)
  · rw [if_neg c]
    refine Ev.congr (fun k => if_neg (by omega)) ?_
    refine Ev.bind (packets_ev l hl) ?_
    by_cases b : l.any badB = true
    · rw [if_pos b]
      exact Ev.congr (fun k => by rw [b]; rfl) (Ev.now _)
    · rw [if_neg b]
      exact Ev.congr (fun k => by rw [show l.any badB = false by simpa using b]; rfl) (Ev.now _)
theorem concat_ev (a b : List S39) (h : a.length + b.length ≤ 1000000) : Ev (fun k => api_Packet_23.f k [a, b]) (a ++ b) := by
  have e0 : rd_L3 [a, b] 0 = a := rfl
  have e1 : rd_L3 [a, b] 1 = b := rfl
  have w0 : wrap64 (0 + (a.length : Int)) = (a.length : Int) := by rw [wr _ (by omega)]; omega
  have w1 : wrap64 ((a.length : Int) + (b.length : Int)) = ((a ++ b).length : Int) := by rw [wr _ (by omega), List.length_append]; omega
  have hab : (a ++ b).length = a.length + b.length := List.length_append
  have s1 : wrap64 (0 + 1) = 1 := by unfold wrap64; omega
  have s2 : wrap64 (1 + 1) = 2 := by unfold wrap64; omega
  have q0 : ((([a, b] : List (List S39)).length : Nat) : Int) = 2 := rfl
  have n0 : (([] : List S39) ++ a) = a := rfl
  unfold api_Packet_23.f
  refine Ev.step (f := fun k => api_Packet_23.l0 k [a, b] (a.length : Int) [a, b] 2 1) (fun k => ?_) ?_
  · rw [api_Packet_23.l0, q0, if_pos (by omega), if_pos (by omega), if_pos (by omega), e0, w0, if_neg (by omega), s1]
  refine Ev.step (f := fun k => api_Packet_23.l0 k [a, b] ((a ++ b).length : Int) [a, b] 2 2) (fun k => ?_) ?_
  · rw [api_Packet_23.l0, q0, if_pos (by omega), if_pos (by omega), if_pos (by omega), e1, w1, if_neg (by omega), s2]
  refine Ev.step (f := fun k => api_Packet_23.l1 k [] [a, b] 2 0) (fun k => ?_) ?_
  · rw [api_Packet_23.l0, if_neg (by omega), q0]
    unfold api_Packet_28.f
    rw [if_pos ⟨rfl, by omega, by omega⟩, Option.bind_some]
  refine Ev.step (f := fun k => api_Packet_23.l1 k a [a, b] 2 1) (fun k => ?_) ?_
  · rw [api_Packet_23.l1, q0, if_pos (by omega), if_pos (by omega), if_pos (by omega), e0, if_pos (by rw [List.length_nil]; omega), s1, n0]
  refine Ev.step (f := fun k => api_Packet_23.l1 k (a ++ b) [a, b] 2 2) (fun k => ?_) ?_
  · rw [api_Packet_23.l1, q0, if_pos (by omega), if_pos (by omega), if_pos (by omega), e1, if_pos (by omega), s2]
  refine Ev.step (f := fun _ => some (a ++ b)) (fun k => ?_) (Ev.now _)
  rw [api_Packet_23.l1, if_neg (by omega)]
def PUT (l more : List S39) : List S39 × Int := if mayI l = 0 then (if more.any badB = true then ([], 2) else ((l ++ more).take 400, 0)) else ([], 2)
theorem put_ev (l more : List S39) (hl : l.length ≤ 500000) (hm : more.length ≤ 400000) : Ev (fun k => net_Put.f k l more) (PUT l more) := by
  unfold net_Put.f PUT
  refine Ev.bind (may_ev l (by omega)) ?_
  by_cases c : mayI l = 0
  · rw [if_pos c]
    refine Ev.congr (fun k => if_pos c) ?_
    refine Ev.bind (contains_ev more (by omega) 0) ?_
    by_cases b : more.any badB = true
    · rw [if_pos b]
      exact Ev.congr (fun k => if_pos b) (Ev.now _)
    · rw [if_neg b]
      refine Ev.congr (fun k => if_neg b) ?_
      refine Ev.bind (concat_ev l more (by omega)) ?_
      have m0 : 0 ≤ mn (((l ++ more).length : Nat) : Int) 400 := by unfold mn; omega
      have m1 : mn (((l ++ more).length : Nat) : Int) 400 ≤ (((l ++ more).length : Nat) : Int) := by unfold mn; omega
      have m2 : (l ++ more).take (mn (((l ++ more).length : Nat) : Int) 400).toNat = (l ++ more).take 400 := by
        by_cases g : (l ++ more).length ≤ 400
        · rw [List.take_of_length_le (by unfold mn; omega), List.take_of_length_le g]
        · rw [show (mn (((l ++ more).length : Nat) : Int) 400).toNat = 400 by unfold mn; omega]
      exact Ev.congr (fun k => by rw [if_pos m0, if_pos m1, m2]) (Ev.now _)
  · rw [if_neg c]
    exact Ev.congr (fun k => if_neg c) (Ev.now _)
theorem eta39 (x : S39) : (⟨x.f0, x.f1, x.f2⟩ : S39) = x := rfl
theorem rput_loop (l more : List S39) (hl : l.length ≤ 400) (hm : more.length ≤ 400000) (d : Nat) : ∀ i : Nat, i ≤ (l ++ more).length → i ≤ 400 → (400 - i) ≤ d →
    Ev (fun k => ententeref31_Put.l0 k l more ((l ++ more).take i) (i : Int)) ((l ++ more).take 400, 0) := by
  have hab : (l ++ more).length = l.length + more.length := List.length_append
  have done : ∀ i : Nat, i ≤ (l ++ more).length → (i = 400 ∨ i = (l ++ more).length) → i ≤ 400 → ∀ b, b = false → Ev (fun k => ententeref31_Put.j2 k l more ((l ++ more).take i) (i : Int) b) ((l ++ more).take 400, 0) := by
    intro i h0 h1 h2 b hb
    subst hb
    refine Ev.step (f := fun _ => some ((l ++ more).take i, 0)) (fun k => ?_) ?_
    · rw [ententeref31_Put.j2, if_neg (by decide)]
    · rw [show (l ++ more).take i = (l ++ more).take 400 by
        rcases h1 with h1 | h1
        · rw [h1]
        · rw [List.take_of_length_le (by omega), List.take_of_length_le (by omega)]]
      exact Ev.now _
  induction d with
  | zero =>
    intro i h0 h1 h2
    have e : wrap64 ((l.length : Int) + (more.length : Int)) = ((l ++ more).length : Int) := by rw [wr _ (by omega)]; omega
    by_cases c : i < (l ++ more).length
    · refine Ev.step (fun k => ?_) (done i h0 (.inl (by omega)) h1 (decide ((i : Int) < 400)) (decide_eq_false (by omega)))
      rw [ententeref31_Put.l0, e, if_pos (by omega)]
    · refine Ev.step (fun k => ?_) (done i h0 (.inr (by omega)) h1 false rfl)
      rw [ententeref31_Put.l0, e, if_neg (by omega)]
  | succ d ih =>
    intro i h0 h1 h2
    have e : wrap64 ((l.length : Int) + (more.length : Int)) = ((l ++ more).length : Int) := by rw [wr _ (by omega)]; omega
    by_cases c : i < (l ++ more).length
    · by_cases g : i < 400
      · have ht : ((l ++ more).take i).length < 4398046511104 := by rw [List.length_take]; omega
        have hs := take_T39 (l ++ more) i c
        have := ih (i + 1) (by omega) (by omega) (by omega)
        rw [hs] at this
        refine Ev.step (f := fun k => ententeref31_Put.j2 k l more ((l ++ more).take i) (i : Int) true) (fun k => ?_) ?_
        · rw [ententeref31_Put.l0, e, if_pos (by omega), decide_eq_true (show (i : Int) < 400 by omega)]
        refine Ev.step (fun k => ?_) this
        rw [ententeref31_Put.j2, if_pos rfl]
        by_cases f : i < l.length
        · rw [if_pos (by omega), if_pos (by omega), if_pos ht, eta39, wr _ (by omega)]
          rw [show rd_T39 l (i : Int) = rd_T39 (l ++ more) (i : Int) by simp [rd_T39, List.getD_eq_getElem?_getD, List.getElem?_append_left f]]
          rfl
        · have w1 : wrap64 ((i : Int) - (l.length : Int)) = ((i - l.length : Nat) : Int) := by rw [wr _ (by omega)]; omega
          rw [if_neg (by omega), w1, if_pos (by omega), if_pos (by omega), if_pos ht, eta39, wr _ (by omega)]
          rw [show rd_T39 more ((i - l.length : Nat) : Int) = rd_T39 (l ++ more) (i : Int) by simp [rd_T39, List.getD_eq_getElem?_getD, List.getElem?_append_right (Nat.le_of_not_lt f)]]
          rfl
      · refine Ev.step (fun k => ?_) (done i h0 (.inl (by omega)) h1 (decide ((i : Int) < 400)) (decide_eq_false (by omega)))
        rw [ententeref31_Put.l0, e, if_pos (by omega)]
    · refine Ev.step (fun k => ?_) (done i h0 (.inr (by omega)) h1 false rfl)
      rw [ententeref31_Put.l0, e, if_neg (by omega)]
theorem rput_ev (l more : List S39) (hl : l.length ≤ 500000) (hm : more.length ≤ 400000) : Ev (fun k => ententeref31_Put.f k l more) (PUT l more) := by
  unfold ententeref31_Put.f PUT
  refine Ev.bind (rmay_ev l (by omega)) ?_
  have refused : Ev (fun k => ententeref31_Put.j0 k l more true) ([], 2) :=
    Ev.step (f := fun _ => some ([], 2)) (fun k => by rw [ententeref31_Put.j0, if_pos rfl]) (Ev.now _)
  by_cases c : mayI l = 0
  · rw [if_pos c]
    refine Ev.congr (fun k => if_pos c) ?_
    refine Ev.bind (packets_ev more (by omega)) ?_
    by_cases b : more.any badB = true
    · rw [if_pos b, b]
      exact refused
    · rw [if_neg b, show more.any badB = false by simpa using b]
      have := rput_loop l more (may_le l c) hm 400 0 (by omega) (by omega) (by omega)
      refine Ev.step (fun k => ?_) this
      rw [show (!!false) = false from rfl, ententeref31_Put.j0, if_neg (by decide)]
      rfl
  · rw [if_neg c]
    exact Ev.congr (fun k => if_neg c) refused
theorem same_loop (a : List S39) (hl : a.length ≤ 1000000) (d : Nat) : ∀ i : Nat, i + d = a.length → Ev (fun k => ententeref31_Same.l0 k a a (i : Int)) true := by
  induction d with
  | zero =>
    intro i hi
    refine Ev.step (f := fun _ => some true) (fun k => ?_) (Ev.now _)
    rw [ententeref31_Same.l0, if_neg (by omega)]
  | succ d ih =>
    intro i hi
    refine Ev.step (fun k => ?_) (ih (i + 1) (by omega))
    rw [ententeref31_Same.l0, if_pos (by omega), if_pos (by omega), if_pos (by omega), if_neg (by simp), wr _ (by omega)]
    rfl
theorem same_ev (a : List S39) (hl : a.length ≤ 1000000) : Ev (fun k => ententeref31_Same.f k a a) true :=
  Ev.congr (fun k => if_pos rfl) (same_loop a hl a.length 0 (by omega))
theorem put_len (l more : List S39) : (PUT l more).1.length ≤ 400 := by
  unfold PUT
  split
  · split
    · simp
    · rw [List.length_take]; omega
  · simp
theorem awake_ev : Ev (fun k => ententelaw31_awake.f k) true := Ev.of ententelaw31_awake.mono (k := 30) (by decide +kernel)
theorem awake_ends : Ev (fun k => (ententelaw31_awake.f k).bind fun t => some t) true := Ev.bind (f := fun _ t => some t) awake_ev (Ev.now _)
theorem drop_int (l : List Int) (i : Nat) (h : i < l.length) : l.drop i = rd l (i : Int) :: l.drop (i + 1) := by
  rw [List.drop_eq_getElem_cons h]
  congr 1
  simp [rd, List.getD_eq_getElem?_getD, h]
theorem indexi_loop (l : List Int) (x : Int) (hl : l.length ≤ 1000000) (d : Nat) : ∀ i : Nat, i + d = l.length →
    ∃ r, Ev (fun k => slices_Index_int_int.l0 k l x (l.length : Int) (i : Int)) r ∧ decide (r ≥ 0) = (l.drop i).any (fun y => y == x) := by
  induction d with
  | zero =>
    intro i hi
    refine ⟨-1, Ev.step (f := fun _ => some (-1)) (fun k => ?_) (Ev.now _), ?_⟩
    · rw [slices_Index_int_int.l0, if_neg (by omega)]
    · rw [List.drop_eq_nil_of_le (by omega)]
      rfl
  | succ d ih =>
    intro i hi
    rw [drop_int l i (by omega), List.any_cons]
    by_cases c : x = rd l (i : Int)
    · refine ⟨(i : Int), Ev.step (f := fun _ => some (i : Int)) (fun k => ?_) (Ev.now _), ?_⟩
      · rw [slices_Index_int_int.l0, if_pos (by omega), if_pos (by omega), if_pos (by omega), if_pos c]
      · rw [show (rd l (i : Int) == x) = true by simp [c], Bool.true_or]
        exact decide_eq_true (by omega)
    · obtain ⟨r, h1, h2⟩ := ih (i + 1) (by omega)
      refine ⟨r, Ev.step (fun k => ?_) h1, ?_⟩
      · rw [slices_Index_int_int.l0, if_pos (by omega), if_pos (by omega), if_pos (by omega), if_neg c, wr _ (by omega)]
        rfl
      · rw [h2, show (rd l (i : Int) == x) = false by simp; exact fun h => c h.symm, Bool.false_or]
theorem containsi_ev (l : List Int) (x : Int) (hl : l.length ≤ 1000000) : Ev (fun k => slices_Contains_int_int.f k l x) (l.any (fun y => y == x)) := by
  obtain ⟨r, h1, h2⟩ := indexi_loop l x hl l.length 0 (by omega)
  rw [List.drop_zero] at h2
  rw [← h2]
  exact Ev.bind (g := fun k => slices_Index_int_int.f k l x) (f := fun _ t => some (decide (t ≥ 0))) h1 (Ev.now _)
/-- The numbers, from i on, of the packets that go tg some of these. -/
def tw (tg : List Int) : Nat → List S39 → List Int
  | _, [] => []
  | i, x :: l => if tg.any (fun y => y == x.f1) = true then (i : Int) :: tw tg (i + 1) l else tw tg (i + 1) l
theorem tw_len (tg : List Int) : ∀ (l : List S39) (i : Nat), (tw tg i l).length ≤ l.length
  | [], _ => by simp [tw]
  | x :: l, i => by
    have := tw_len tg l (i + 1)
    rw [tw]
    split <;> simp <;> omega
theorem toward_loop (l : List S39) (tg : List Int) (hl : l.length ≤ 1000000) (ht : tg.length ≤ 1000000) (d : Nat) : ∀ (i : Nat) (acc : List Int), i + d = l.length → acc.length ≤ i →
    Ev (fun k => net_Toward.l0 k tg acc l (l.length : Int) (i : Int)) (acc ++ tw tg i (l.drop i)) := by
  induction d with
  | zero =>
    intro i acc hi ha
    refine Ev.step (f := fun _ => some (acc ++ tw tg i (l.drop i))) (fun k => ?_) (Ev.now _)
    rw [net_Toward.l0, if_neg (by omega), List.drop_eq_nil_of_le (by omega), tw, List.append_nil]
  | succ d ih =>
    intro i acc hi ha
    rw [drop_T39 l i (by omega), tw]
    refine Ev.step (f := fun k => (slices_Contains_int_int.f k tg (rd_T39 l (i : Int)).f1).bind fun t => if t = true then net_Toward.l0 k tg (acc ++ [(i : Int)]) l (l.length : Int) ((i + 1 : Nat) : Int) else net_Toward.l0 k tg acc l (l.length : Int) ((i + 1 : Nat) : Int)) (fun k => ?_) ?_
    · rw [net_Toward.l0, if_pos (by omega), if_pos (by omega), if_pos (by omega), if_pos (by omega), wr _ (by omega)]
      rfl
    refine Ev.bind (containsi_ev tg (rd_T39 l (i : Int)).f1 ht) ?_
    by_cases c : tg.any (fun y => y == (rd_T39 l (i : Int)).f1) = true
    · rw [if_pos c]
      have := ih (i + 1) (acc ++ [(i : Int)]) (by omega) (by rw [List.length_append, List.length_singleton]; omega)
      rw [List.append_assoc, List.singleton_append] at this
      exact Ev.congr (fun k => if_pos c) this
    · rw [if_neg c]
      exact Ev.congr (fun k => if_neg c) (ih (i + 1) acc (by omega) (by omega))
def TW (l : List S39) (tg : List Int) : List Int := if mayI l = 0 then tw tg 0 l else []
theorem toward_ev (l : List S39) (tg : List Int) (hl : l.length ≤ 1000000) (ht : tg.length ≤ 1000000) : Ev (fun k => net_Toward.f k l tg) (TW l tg) := by
  unfold net_Toward.f TW
  refine Ev.bind (may_ev l hl) ?_
  by_cases c : mayI l = 0
  · rw [if_pos c]
    have := toward_loop l tg hl ht l.length 0 [] (by omega) (by simp)
    rw [List.drop_zero, List.nil_append] at this
    exact Ev.congr (fun k => if_pos c) this
  · rw [if_neg c]
    exact Ev.congr (fun k => if_neg c) (Ev.now _)
theorem rtoward_in (l : List S39) (tg : List Int) (hl : l.length ≤ 1000000) (ht : tg.length ≤ 1000000) (acc : List Int) (i : Nat) (hi : i < l.length) (ha : acc.length ≤ i) (r : List Int)
    (h1 : tg.any (fun y => y == (rd_T39 l (i : Int)).f1) = true → Ev (fun k => ententeref31_Toward.l0 k l tg (acc ++ [(i : Int)]) ((i + 1 : Nat) : Int)) r)
    (h2 : ¬ tg.any (fun y => y == (rd_T39 l (i : Int)).f1) = true → Ev (fun k => ententeref31_Toward.l0 k l tg acc ((i + 1 : Nat) : Int)) r) (d : Nat) :
    ∀ (j : Nat) (m : Bool), j + d = tg.length → (m || (tg.drop j).any (fun y => y == (rd_T39 l (i : Int)).f1)) = tg.any (fun y => y == (rd_T39 l (i : Int)).f1) →
    Ev (fun k => ententeref31_Toward.l1 k l tg acc (i : Int) m (j : Int)) r := by
  induction d with
  | zero =>
    intro j m hj hm
    rw [List.drop_eq_nil_of_le (by omega), List.any_nil, Bool.or_false] at hm
    cases m with
    | true =>
      refine Ev.step (fun k => ?_) (h1 hm.symm)
      rw [ententeref31_Toward.l1, if_neg (by omega), if_pos rfl, if_pos (by omega), wr _ (by omega)]
      rfl
    | false =>
      refine Ev.step (fun k => ?_) (h2 (by rw [← hm]; decide))
      rw [ententeref31_Toward.l1, if_neg (by omega), if_neg (by decide), wr _ (by omega)]
      rfl
  | succ d ih =>
    intro j m hj hm
    rw [drop_int tg j (by omega), List.any_cons] at hm
    cases m with
    | true =>
      refine Ev.step (fun k => ?_) (ih (j + 1) true (by omega) (by rw [Bool.true_or] at hm ⊢; exact hm))
      rw [ententeref31_Toward.l1, if_pos (by omega), if_pos rfl, wr _ (by omega)]
      rfl
    | false =>
      refine Ev.step (fun k => ?_) (ih (j + 1) (rd tg (j : Int) == (rd_T39 l (i : Int)).f1) (by omega) (by rw [Bool.false_or] at hm; exact hm))
      rw [ententeref31_Toward.l1, if_pos (by omega), if_neg (by decide), if_pos (by omega), if_pos (by omega), if_pos (by omega), wr _ (by omega)]
      rfl
theorem rtoward_no (l : List S39) (tg acc : List Int) (i : Int) : Ev (fun k => ententeref31_Toward.j1 k l tg acc i false) acc :=
  Ev.step (f := fun _ => some acc) (fun k => by rw [ententeref31_Toward.j1, if_neg (by decide)]) (Ev.now _)
theorem rtoward_loop (l : List S39) (tg : List Int) (hl : l.length ≤ 1000000) (ht : tg.length ≤ 1000000) (c : mayI l = 0) (d : Nat) : ∀ (i : Nat) (acc : List Int), i + d = l.length → acc.length ≤ i →
    Ev (fun k => ententeref31_Toward.l0 k l tg acc (i : Int)) (acc ++ tw tg i (l.drop i)) := by
  induction d with
  | zero =>
    intro i acc hi ha
    rw [List.drop_eq_nil_of_le (by omega), tw, List.append_nil]
    refine Ev.step (fun k => ?_) (rtoward_no l tg acc (i : Int))
    rw [ententeref31_Toward.l0, if_neg (by omega)]
  | succ d ih =>
    intro i acc hi ha
    refine Ev.step (f := fun k => (ententeref31_May.f k l).bind fun t => ententeref31_Toward.j1 k l tg acc (i : Int) (t == 0)) (fun k => ?_) ?_
    · rw [ententeref31_Toward.l0, if_pos (by omega)]
    refine Ev.bind (rmay_ev l hl) ?_
    rw [c]
    refine Ev.step (f := fun k => ententeref31_Toward.l1 k l tg acc (i : Int) false ((0 : Nat) : Int)) (fun k => ?_) ?_
    · rw [show ((0 : Int) == 0) = true from rfl, ententeref31_Toward.j1, if_pos rfl]
      rfl
    refine rtoward_in l tg hl ht acc i (by omega) ha _ (fun h => ?_) (fun h => ?_) tg.length 0 false (by omega) (by rw [List.drop_zero, Bool.false_or])
    · have := ih (i + 1) (acc ++ [(i : Int)]) (by omega) (by rw [List.length_append, List.length_singleton]; omega)
      rw [List.append_assoc, List.singleton_append] at this
      rw [drop_T39 l i (by omega), tw, if_pos h]
      exact this
    · rw [drop_T39 l i (by omega), tw, if_neg h]
      exact ih (i + 1) acc (by omega) (by omega)
theorem rtoward_ev (l : List S39) (tg : List Int) (hl : l.length ≤ 1000000) (ht : tg.length ≤ 1000000) : Ev (fun k => ententeref31_Toward.f k l tg) (TW l tg) := by
  unfold ententeref31_Toward.f TW
  by_cases c : mayI l = 0
  · rw [if_pos c]
    have := rtoward_loop l tg hl ht c l.length 0 [] (by omega) (by simp)
    rw [List.drop_zero, List.nil_append] at this
    exact this
  · rw [if_neg c]
    by_cases e : 0 < l.length
    · refine Ev.step (f := fun k => (ententeref31_May.f k l).bind fun t => ententeref31_Toward.j1 k l tg [] 0 (t == 0)) (fun k => ?_) ?_
      · rw [ententeref31_Toward.l0, if_pos (by omega)]
      refine Ev.bind (rmay_ev l hl) ?_
      rw [show (mayI l == 0) = false by simpa using c]
      exact rtoward_no l tg [] 0
    · refine Ev.step (fun k => ?_) (rtoward_no l tg [] 0)
      rw [ententeref31_Toward.l0, if_neg (by omega)]
theorem numbers_loop (a : List Int) (hl : a.length ≤ 1000000) (d : Nat) : ∀ i : Nat, i + d = a.length → Ev (fun k => ententeref16_Numbers.l0 k a a (i : Int)) true := by
  induction d with
  | zero =>
    intro i hi
    refine Ev.step (f := fun _ => some true) (fun k => ?_) (Ev.now _)
    rw [ententeref16_Numbers.l0, if_neg (by omega)]
  | succ d ih =>
    intro i hi
    refine Ev.step (fun k => ?_) (ih (i + 1) (by omega))
    rw [ententeref16_Numbers.l0, if_pos (by omega), if_pos (by omega), if_pos (by omega), if_pos rfl, wr _ (by omega)]
    rfl
theorem numbers_ev (a : List Int) (hl : a.length ≤ 1000000) : Ev (fun k => ententeref16_Numbers.f k a a) true :=
  Ev.congr (fun k => if_pos rfl) (numbers_loop a hl a.length 0 (by omega))
theorem yes_puts (l0 l1 : List S39) (l2 : List Int) : Ev (fun k => ententelaw31_NetPuts.j0 k l0 l1 l2 true) true :=
  Ev.step (fun k => by rw [ententelaw31_NetPuts.j0, if_pos rfl]) awake_ends
theorem NetPuts : ententelaw31_NetPuts.Pure := by
  intro l0 l1 l2 h0 h1 h2
  refine Ev.rounds (g := fun k => ententelaw31_NetPuts.f k l0 l1 l2) ?_
  unfold ententelaw31_NetPuts.f ententelaw31_few.f
  simp only [Option.bind_some]
  by_cases c0 : (l0.length : Int) ≤ 900
  · rw [decide_eq_true c0]
    refine Ev.congr (fun k => if_pos rfl) ?_
    by_cases c1 : (l1.length : Int) ≤ 900
    · rw [decide_eq_true c1]
      refine Ev.congr (fun k => if_pos rfl) ?_
      by_cases c2 : (l2.length : Int) > 100
      · rw [decide_eq_true c2]
        exact yes_puts l0 l1 l2
      · rw [decide_eq_false c2]
        refine Ev.step (fun k => by rw [ententelaw31_NetPuts.j0, if_neg (by decide)]) ?_
        refine Ev.bind (put_ev l0 l1 (by omega) (by omega)) ?_
        refine Ev.bind (rput_ev l0 l1 (by omega) (by omega)) ?_
        refine Ev.bind (may_ev l0 (by omega)) ?_
        refine Ev.bind (rmay_ev l0 (by omega)) ?_
        refine Ev.congr (fun k => if_pos rfl) ?_
        refine Ev.bind (same_ev (PUT l0 l1).1 (by have := put_len l0 l1; omega)) ?_
        refine Ev.congr (fun k => if_pos rfl) ?_
        refine Ev.congr (fun k => if_pos rfl) ?_
        refine Ev.bind (toward_ev l0 l2 (by omega) (by omega)) ?_
        refine Ev.bind (rtoward_ev l0 l2 (by omega) (by omega)) ?_
        refine Ev.bind (numbers_ev (TW l0 l2) (by unfold TW; split; have := tw_len l2 l0 0; omega; simp)) ?_
        exact Ev.congr (fun k => if_pos rfl) awake_ends
    · rw [decide_eq_false c1]
      exact Ev.congr (fun k => if_neg (by decide)) (yes_puts l0 l1 l2)
  · rw [decide_eq_false c0]
    exact Ev.congr (fun k => if_neg (by decide)) (yes_puts l0 l1 l2)

end Go.Proofs.Ytialhfhipoeppaa.Pure
