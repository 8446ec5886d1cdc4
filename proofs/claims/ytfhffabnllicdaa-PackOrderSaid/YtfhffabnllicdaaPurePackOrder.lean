/- PackOrder: proved for all arguments; no condition. -/
import Derived.Test.YtfhffabnllicdaaNum
import Derived.Test.YtfhffabnllicdaaPAx3
namespace Go.Proofs.Ytfhffabnllicdaa.Pure
open Go.RowKit Go.Proofs.Ytfhffabnllicdaa.PA Go.Proofs.YtfhffabnllicdaaW.PrintWords Go.Proofs.YtfhffabnllicdaaW.PrintLast Go.Proofs.YtfhffabnllicdaaW.PrintMore Go.Proofs.Ytfhffabnllicdaa.Num
set_option linter.unusedVariables false
set_option linter.unusedSimpArgs false

/-- A number's form. -/
def Nm (n : Int) : ByteArray := strOfNums (numS n.toNat)
theorem nm_bytes (n : Int) : bytesOf (Nm n) = numS n.toNat := bytesOf_nums _ (numS_byte _)
theorem nm_size (n : Int) : (Nm n).size = (numS n.toNat).length := by rw [← size_bytesOf, nm_bytes]
theorem nm_ten (n : Int) (h : 0 ≤ n ∧ n < 18446744073709551616) : 1 ≤ (Nm n).size ∧ (Nm n).size ≤ 10 := by
  rw [nm_size]
  exact ⟨numS_pos _, numS_ten _ (by omega)⟩
theorem number_loop (n : Nat) : ∀ acc : List Int, acc.length + (numS n).length ≤ 1000 → Ev (fun k => pack_Number.l0 k (n : Int) acc) (strOfNums (acc ++ numS n)) := by
  induction n using Nat.strongRecOn with
  | _ n ih =>
    intro acc hl
    have hp := numS_pos n
    by_cases h : n < 128
    · refine Ev.step (f := fun _ => some (strOfNums (acc ++ numS n))) (fun k => ?_) (Ev.now _)
      simp only [pack_Number.l0]
      rw [if_neg (by omega), if_pos (by omega), numS_small h]
      congr 4
      omega
    · have e := numS_big h
      rw [e, List.length_cons] at hl
      have := ih (n / 128) (by omega) (acc ++ [((n % 128 + 128 : Nat) : Int)]) (by rw [List.length_append, List.length_singleton]; omega)
      rw [e]
      rw [List.append_assoc, List.singleton_append] at this
      refine Ev.step (fun k => ?_) this
      simp only [pack_Number.l0]
      rw [if_pos (by omega), if_pos (by omega), or128 _ (by omega)]
      have q1 : (n : Int) / 128 = ((n / 128 : Nat) : Int) := by omega
      have q2 : (n : Int) % 256 % 128 + 128 = ((n % 128 + 128 : Nat) : Int) := by omega
      rw [q1, q2]
theorem number_ev (n : Int) (h : 0 ≤ n ∧ n < 18446744073709551616) : Ev (fun k => pack_Number.f k n) (Nm n) := by
  obtain ⟨m, rfl⟩ := Int.eq_ofNat_of_zero_le h.1
  have := number_loop m [] (by have := numS_ten m (by omega); simp; omega)
  rw [List.nil_append] at this
  exact this
/-- A text's form. -/
def Tx (s : ByteArray) : ByteArray := Nm (s.size : Int) ++ s
theorem size_app (s t : ByteArray) : (s ++ t).size = s.size + t.size := by
  rw [← size_bytesOf, bytesOf_append, List.length_append, size_bytesOf, size_bytesOf]
theorem tx_size (s : ByteArray) (h : s.size ≤ 140737488351232) : (Tx s).size ≤ s.size + 10 := by
  unfold Tx
  have := (nm_ten (s.size : Int) (by omega)).2
  rw [size_app]; omega
theorem text_ev (s : ByteArray) (h : s.size ≤ 140737488351232) : Ev (fun k => pack_Text.f k s) (Tx s) := by
  have hn := nm_ten (s.size : Int) (by omega)
  have hu := uw (s.size : Int) (by omega)
  unfold pack_Text.f
  rw [hu]
  refine Ev.bind (number_ev (s.size : Int) (by omega)) ?_
  refine Ev.congr (f := fun _ => some (Tx s)) (fun k => ?_) (Ev.now _)
  rw [if_pos (by omega)]
  rfl
/-- Texts, one behind the other, laid. -/
def cat : List ByteArray → ByteArray
  | [] => ByteArray.empty
  | s :: l => Tx s ++ cat l
def Txs (l : List ByteArray) : ByteArray := Nm (l.length : Int) ++ cat l
/-- How long texts are, each with ten bytes more. -/
def room : List ByteArray → Nat
  | [] => 0
  | s :: l => s.size + 10 + room l
theorem cat_size (l : List ByteArray) (h : room l ≤ 140737488351232) : (cat l).size ≤ room l := by
  induction l with
  | nil => simp [cat, room]
  | cons s l ih =>
    simp only [room] at h ⊢
    simp only [cat]
    have := tx_size s (by omega)
    have := ih (by omega)
    rw [size_app]; omega
theorem drop_rdOf (l : List ByteArray) (i : Nat) (h : i < l.length) : l.drop i = rdOf ByteArray.empty l (i : Int) :: l.drop (i + 1) := by
  rw [List.drop_eq_getElem_cons h]
  congr 1
  unfold rdOf
  simp [List.getD_eq_getElem?_getD, List.getElem?_eq_getElem h]
theorem app_assoc (a b c : ByteArray) : a ++ b ++ c = a ++ (b ++ c) := bytesOf_inj (by simp only [bytesOf_append, List.append_assoc])
theorem app_empty (a : ByteArray) : a ++ ByteArray.empty = a := bytesOf_inj (by simp only [bytesOf_append, bytesOf_empty, List.append_nil])
theorem texts_loop (l : List ByteArray) (hr : room l ≤ 100000000) (d : Nat) : ∀ (i : Nat) (acc : ByteArray), i + d = l.length → acc.size + room (l.drop i) ≤ 200000000 →
    Ev (fun k => pack_Texts.l0 k l (i : Int) acc) (acc ++ cat (l.drop i)) := by
  induction d with
  | zero =>
    intro i acc hi hb
    refine Ev.step (f := fun _ => some (acc ++ cat (l.drop i))) (fun k => ?_) (Ev.now _)
    simp only [pack_Texts.l0]
    rw [if_neg (by omega), List.drop_eq_nil_of_le (by omega)]
    simp only [cat, app_empty]
  | succ d ih =>
    intro i acc hi hb
    have hd := drop_rdOf l i (by omega)
    have hlen : l.length ≤ room l := by
      clear ih hi hb hd hr
      induction l with
      | nil => simp [room]
      | cons s l ih => simp only [room, List.length_cons]; omega
    rw [hd] at hb ⊢
    simp only [room] at hb
    simp only [cat]
    have ht := tx_size (rdOf ByteArray.empty l (i : Int)) (by omega)
    have h1 : wrap64 ((i : Int) + 1) = ((i + 1 : Nat) : Int) := by unfold wrap64; omega
    have := ih (i + 1) (acc ++ Tx (rdOf ByteArray.empty l (i : Int))) (by omega) (by rw [size_app]; omega)
    rw [app_assoc] at this
    refine Ev.step (f := fun k => (pack_Text.f k (rdOf ByteArray.empty l (i : Int))).bind fun t => (if acc.size + t.size ≤ 140737488355328 then (pack_Texts.l0 k l (wrap64 ((i : Int) + 1)) (acc ++ t)) else none)) (fun k => ?_) ?_
    · simp only [pack_Texts.l0]
      rw [if_pos (by omega), if_pos (by omega)]
    · refine Ev.bind (text_ev _ (by omega)) ?_
      rw [h1]
      exact Ev.congr (fun k => if_pos (by omega)) this
theorem room_len (l : List ByteArray) : 10 * l.length ≤ room l := by
  induction l with
  | nil => simp [room]
  | cons s l ih => simp only [room, List.length_cons]; omega
theorem texts_ev (l : List ByteArray) (hr : room l ≤ 100000000) : Ev (fun k => pack_Texts.f k l) (Txs l) := by
  have hl := room_len l
  have hn := nm_ten (l.length : Int) (by omega)
  have hu := uw (l.length : Int) (by omega)
  unfold pack_Texts.f
  rw [hu]
  refine Ev.bind (number_ev (l.length : Int) (by omega)) ?_
  have := texts_loop l hr l.length 0 (Nm (l.length : Int)) (by omega) (by rw [List.drop_zero]; omega)
  rw [List.drop_zero] at this
  exact Ev.congr (fun k => if_pos (by omega)) this
theorem awake_ev : Ev (fun k => ententelaw01_awake.f k) true := by
  obtain ⟨K1, h1⟩ := Ev.of (fun k => pack_TakeNumber.mono (⟨#[172, 2]⟩ : ByteArray) 0 k) (k := 20) (r := (300, 2, 0)) (by decide +kernel)
  obtain ⟨K2, h2⟩ := Ev.of (fun k => pack_TakeSigned.mono (⟨#[1]⟩ : ByteArray) 0 k) (k := 20) (r := (-1, 1, 0)) (by decide +kernel)
  obtain ⟨K3, h3⟩ := Ev.of (fun k => pack_TakeNumber.mono (⟨#[128, 0]⟩ : ByteArray) 0 k) (k := 20) (r := (0, 0, 11)) (by decide +kernel)
  obtain ⟨K4, h4⟩ := number_ev 300 (by omega)
  obtain ⟨K5, h5⟩ := texts_ev [(⟨#[97]⟩ : ByteArray), (⟨#[]⟩ : ByteArray)] (by simp [room, ByteArray.size])
  refine ⟨K1 + K2 + K3 + K4 + K5, fun k hk => ?_⟩
  show ententelaw01_awake.f k = some true
  have g1 := h1 k (by omega)
  have g2 := h2 k (by omega)
  have g3 := h3 k (by omega)
  have g4 := h4 k (by omega)
  have g5 := h5 k (by omega)
  simp only [] at g1 g2 g3 g4 g5
  unfold ententelaw01_awake.f
  rw [g1, g2, g3, g4, g5]
  have n300 : numS 300 = [172, 2] := by rw [numS_big (by decide), numS_small (by decide)]; rfl
  have n1 : numS 1 = [1] := numS_small (by decide)
  have n2 : numS 2 = [2] := numS_small (by decide)
  have n0 : numS 0 = [0] := numS_small (by decide)
  have e1 : (Nm 300).toList = [172, 2] := by
    rw [Lib.toList_data]; unfold Nm
    rw [show (300 : Int).toNat = 300 from rfl, n300]; rfl
  have e2 : (Txs [(⟨#[97]⟩ : ByteArray), (⟨#[]⟩ : ByteArray)]).toList = [2, 1, 97, 0] := by
    have : Txs [(⟨#[97]⟩ : ByteArray), (⟨#[]⟩ : ByteArray)] = ⟨#[2, 1, 97, 0]⟩ := by
      apply bytesOf_inj
      unfold Txs
      simp only [cat, Tx, bytesOf_append, nm_bytes, List.length_cons, List.length_nil, bytesOf_empty]
      rw [show ((0 + 1 + 1 : Nat) : Int).toNat = 2 from rfl, show (((⟨#[97]⟩ : ByteArray).size : Nat) : Int).toNat = 1 from rfl, show (((⟨#[]⟩ : ByteArray).size : Nat) : Int).toNat = 0 from rfl, n1, n2, n0]
      rfl
    rw [this, Lib.toList_data]
  simp only [Option.bind_some, e1, e2, if_true]
  rfl
theorem PackOrder : ententelaw01_PackOrder.Pure := by
  intro a b wa wb
  have ha : 0 ≤ a ∧ a < 18446744073709551616 := by
    simp [Lit.wf, IntKind.min, IntKind.max, IntKind.signed, IntKind.bits] at wa; omega
  have hb : 0 ≤ b ∧ b < 18446744073709551616 := by
    simp [Lit.wf, IntKind.min, IntKind.max, IntKind.signed, IntKind.bits] at wb; omega
  have sa := nm_ten a ha
  have sb := nm_ten b hb
  have key : ((a == b) == (((Nm a).extract 0 (mn ((Nm a).size : Int) ((Nm b).size : Int)).toNat).toList == ((Nm b).extract 0 (mn ((Nm a).size : Int) ((Nm b).size : Int)).toNat).toList)) = true := by
    obtain ⟨n, hn⟩ : ∃ n : Nat, n = (mn ((Nm a).size : Int) ((Nm b).size : Int)).toNat := ⟨_, rfl⟩
    rw [← hn]
    by_cases e : a = b
    · subst e; simp
    · have ne : ¬ ((Nm a).extract 0 n).toList = ((Nm b).extract 0 n).toList := by
        rw [toList_iff]
        intro h
        have h2 := congrArg bytesOf h
        rw [bytesOf_extract, bytesOf_extract, List.drop_zero, List.drop_zero, nm_bytes, nm_bytes] at h2
        have la := nm_size a
        have lb := nm_size b
        have ca := canon_numS a.toNat
        have cb := canon_numS b.toNat
        have ab : numS a.toNat = numS b.toNat := by
          by_cases c : (numS a.toNat).length ≤ (numS b.toNat).length
          · have hn2 : n = (numS a.toNat).length := by rw [hn, la, lb]; unfold mn; split <;> omega
            rw [List.take_of_length_le (by omega)] at h2
            have := canon_prefix _ _ ((numS b.toNat).drop n) ca cb (by rw [h2, List.take_append_drop])
            have h3 : numS b.toNat = (numS b.toNat).take n ++ (numS b.toNat).drop n := (List.take_append_drop _ _).symm
            rw [this, List.append_nil] at h3
            rw [h2, ← h3]
          · have hn2 : n = (numS b.toNat).length := by rw [hn, la, lb]; unfold mn; split <;> omega
            rw [List.take_of_length_le (l := numS b.toNat) (by omega)] at h2
            have := canon_prefix _ _ ((numS a.toNat).drop n) cb ca (by rw [← h2, List.take_append_drop])
            have h3 : numS a.toNat = (numS a.toNat).take n ++ (numS a.toNat).drop n := (List.take_append_drop _ _).symm
            rw [this, List.append_nil] at h3
            rw [h3, h2]
        have := numS_inj ab
        omega
      rw [beq_eq_false_iff_ne.mpr e, beq_eq_false_iff_ne.mpr ne]
      rfl
  have mo : a > b → ¬ ((Nm a).size : Int) < ((Nm b).size : Int) := by
    intro h
    rw [nm_size, nm_size]
    have := numS_mono a.toNat b.toNat (by omega)
    omega
  have m0 : 0 ≤ mn ((Nm a).size : Int) ((Nm b).size : Int) := by unfold mn; split <;> omega
  have m1 : mn ((Nm a).size : Int) ((Nm b).size : Int) ≤ ((Nm a).size : Int) := by unfold mn; split <;> omega
  have m2 : mn ((Nm a).size : Int) ((Nm b).size : Int) ≤ ((Nm b).size : Int) := by unfold mn; split <;> omega
  refine Ev.rounds (g := fun k => ententelaw01_PackOrder.f k a b) ?_
  unfold ententelaw01_PackOrder.f
  refine Ev.bind (number_ev a ha) (Ev.bind (number_ev b hb) ?_)
  refine Ev.congr (f := fun k => (ententelaw01_awake.f k).bind fun t => some t) (fun k => ?_) (Ev.bind awake_ev (Ev.now true))
  by_cases c : a > b
  · rw [if_pos c, if_neg (mo c), if_neg (by omega), if_neg (by omega), if_pos m0, if_pos m1, if_pos m2, if_pos key]
  · rw [if_neg c, if_neg (by omega), if_neg (by omega), if_pos m0, if_pos m1, if_pos m2, if_pos key]

end Go.Proofs.Ytfhffabnllicdaa.Pure
