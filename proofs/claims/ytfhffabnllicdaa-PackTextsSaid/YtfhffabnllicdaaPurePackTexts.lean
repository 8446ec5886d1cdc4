/- PackTexts: proved for all arguments; no condition. -/
import Derived.Test.YtfhffabnllicdaaNum
import Derived.Test.YtfhffabnllicdaaPAx3
namespace Go.Proofs.Ytfhffabnllicdaa.Pure
open Go.RowKit Go.Proofs.Ytfhffabnllicdaa.PA Go.Proofs.YtfhffabnllicdaaW.PrintWords Go.Proofs.YtfhffabnllicdaaW.PrintLast Go.Proofs.YtfhffabnllicdaaW.PrintMore Go.Proofs.Ytfhffabnllicdaa.Num
set_option linter.unusedVariables false
set_option linter.unusedSimpArgs false

/-- A number's form. -/
def Nm (n : Int) : ByteArray := strOfNums (numS n.toNat)
theorem nm_bytes (n : Int) : bytesOf (Nm n) = numS n.toNat := bytesOf_nums _ (numS_byte _)
theorem nm_size (n : Int) : (Nm n).size = (numS n.toNat).length := by rw [← size_bytesOf, nm_bytes]
theorem nm_ten (n : Int) (h : 0 ≤ n ∧ n < 18446744073709551616) : 1 ≤ (Nm n).size ∧ (Nm n).size ≤ 10 := by
  rw [nm_size]
  exact ⟨numS_pos _, numS_ten _ (by omega)⟩
theorem number_loop (n : Nat) : ∀ acc : List Int, acc.length + (numS n).length ≤ 1000 → Ev (fun k => pack_Number.l0 k (n : Int) acc) (strOfNums (acc ++ numS n)) := by
  induction n using Nat.strongRecOn with
  | _ n ih =>
    intro acc hl
    have hp := numS_pos n
    by_cases h : n < 128
    · refine Ev.step (f := fun _ => some (strOfNums (acc ++ numS n))) (fun k => ?_) (Ev.now _)
      simp only [pack_Number.l0]
      rw [if_neg (by omega), if_pos (by omega), numS_small h]
      congr 4
      omega
    · have e := numS_big h
      rw [e, List.length_cons] at hl
      have := ih (n / 128) (by omega) (acc ++ [((n % 128 + 128 : Nat) : Int)]) (by rw [List.length_append, List.length_singleton]; omega)
      rw [e]
      rw [List.append_assoc, List.singleton_append] at this
      refine Ev.step (fun k => ?_) this
      simp only [pack_Number.l0]
      rw [if_pos (by omega), if_pos (by omega), or128 _ (by omega)]
      have q1 : (n : Int) / 128 = ((n / 128 : Nat) : Int) := by omega
      have q2 : (n : Int) % 256 % 128 + 128 = ((n % 128 + 128 : Nat) : Int) := by omega
      rw [q1, q2]
theorem number_ev (n : Int) (h : 0 ≤ n ∧ n < 18446744073709551616) : Ev (fun k => pack_Number.f k n) (Nm n) := by
  obtain ⟨m, rfl⟩ := Int.eq_ofNat_of_zero_le h.1
  have := number_loop m [] (by have := numS_ten m (by omega); simp; omega)
  rw [List.nil_append] at this
  exact this
/-- A text's form. -/
def Tx (s : ByteArray) : ByteArray := Nm (s.size : Int) ++ s
theorem size_app (s t : ByteArray) : (s ++ t).size = s.size + t.size := by
  rw [← size_bytesOf, bytesOf_append, List.length_append, size_bytesOf, size_bytesOf]
theorem tx_size (s : ByteArray) (h : s.size ≤ 140737488351232) : (Tx s).size ≤ s.size + 10 := by
  unfold Tx
  have := (nm_ten (s.size : Int) (by omega)).2
  rw [size_app]; omega
theorem text_ev (s : ByteArray) (h : s.size ≤ 140737488351232) : Ev (fun k => pack_Text.f k s) (Tx s) := by
  have hn := nm_ten (s.size : Int) (by omega)
  have hu := uw (s.size : Int) (by omega)
  unfold pack_Text.f
  rw [hu]
  refine Ev.bind (number_ev (s.size : Int) (by omega)) ?_
  refine Ev.congr (f := fun _ => some (Tx s)) (fun k => ?_) (Ev.now _)
  rw [if_pos (by omega)]
  rfl
/-- Texts, one behind the other, laid. -/
def cat : List ByteArray → ByteArray
  | [] => ByteArray.empty
  | s :: l => Tx s ++ cat l
def Txs (l : List ByteArray) : ByteArray := Nm (l.length : Int) ++ cat l
/-- How long texts are, each with ten bytes more. -/
def room : List ByteArray → Nat
  | [] => 0
  | s :: l => s.size + 10 + room l
theorem cat_size (l : List ByteArray) (h : room l ≤ 140737488351232) : (cat l).size ≤ room l := by
  induction l with
  | nil => simp [cat, room]
  | cons s l ih =>
    simp only [room] at h ⊢
    simp only [cat]
    have := tx_size s (by omega)
    have := ih (by omega)
    rw [size_app]; omega
theorem drop_rdOf (l : List ByteArray) (i : Nat) (h : i < l.length) : l.drop i = rdOf ByteArray.empty l (i : Int) :: l.drop (i + 1) := by
  rw [List.drop_eq_getElem_cons h]
  congr 1
  unfold rdOf
  simp [List.getD_eq_getElem?_getD, List.getElem?_eq_getElem h]
theorem app_assoc (a b c : ByteArray) : a ++ b ++ c = a ++ (b ++ c) := bytesOf_inj (by simp only [bytesOf_append, List.append_assoc])
theorem app_empty (a : ByteArray) : a ++ ByteArray.empty = a := bytesOf_inj (by simp only [bytesOf_append, bytesOf_empty, List.append_nil])
theorem texts_loop (l : List ByteArray) (hr : room l ≤ 100000000) (d : Nat) : ∀ (i : Nat) (acc : ByteArray), i + d = l.length → acc.size + room (l.drop i) ≤ 200000000 →
    Ev (fun k => pack_Texts.l0 k l (i : Int) acc) (acc ++ cat (l.drop i)) := by
  induction d with
  | zero =>
    intro i acc hi hb
    refine Ev.step (f := fun _ => some (acc ++ cat (l.drop i))) (fun k => ?_) (Ev.now _)
    simp only [pack_Texts.l0]
    rw [if_neg (by omega), List.drop_eq_nil_of_le (by omega)]
    simp only [cat, app_empty]
  | succ d ih =>
    intro i acc hi hb
    have hd := drop_rdOf l i (by omega)
    have hlen : l.length ≤ room l := by
      clear ih hi hb hd hr
      induction l with
      | nil => simp [room]
      | cons s l ih => simp only [room, List.length_cons]; omega
    rw [hd] at hb ⊢
    simp only [room] at hb
    simp only [cat]
    have ht := tx_size (rdOf ByteArray.empty l (i : Int)) (by omega)
    have h1 : wrap64 ((i : Int) + 1) = ((i + 1 : Nat) : Int) := by unfold wrap64; omega
    have := ih (i + 1) (acc ++ Tx (rdOf ByteArray.empty l (i : Int))) (by omega) (by rw [size_app]; omega)
    rw [app_assoc] at this
    refine Ev.step (f := fun k => (pack_Text.f k (rdOf ByteArray.empty l (i : Int))).bind fun t => (if acc.size + t.size ≤ 140737488355328 then (pack_Texts.l0 k l (wrap64 ((i : Int) + 1)) (acc ++ t)) else none)) (fun k => ?_) ?_
    · simp only [pack_Texts.l0]
      rw [if_pos (by omega), if_pos (by omega)]
    · refine Ev.bind (text_ev _ (by omega)) ?_
      rw [h1]
      exact Ev.congr (fun k => if_pos (by omega)) this
theorem room_len (l : List ByteArray) : 10 * l.length ≤ room l := by
  induction l with
  | nil => simp [room]
  | cons s l ih => simp only [room, List.length_cons]; omega
theorem texts_ev (l : List ByteArray) (hr : room l ≤ 100000000) : Ev (fun k => pack_Texts.f k l) (Txs l) := by
  have hl := room_len l
  have hn := nm_ten (l.length : Int) (by omega)
  have hu := uw (l.length : Int) (by omega)
  unfold pack_Texts.f
  rw [hu]
  refine Ev.bind (number_ev (l.length : Int) (by omega)) ?_
  have := texts_loop l hr l.length 0 (Nm (l.length : Int)) (by omega) (by rw [List.drop_zero]; omega)
  rw [List.drop_zero] at this
  exact Ev.congr (fun k => if_pos (by omega)) this
theorem awake_ev : Ev (fun k => ententelaw01_awake.f k) true := by
  obtain ⟨K1, h1⟩ := Ev.of (fun k => pack_TakeNumber.mono (⟨#[172, 2]⟩ : ByteArray) 0 k) (k := 20) (r := (300, 2, 0)) (by decide +kernel)
  obtain ⟨K2, h2⟩ := Ev.of (fun k => pack_TakeSigned.mono (⟨#[1]⟩ : ByteArray) 0 k) (k := 20) (r := (-1, 1, 0)) (by decide +kernel)
  obtain ⟨K3, h3⟩ := Ev.of (fun k => pack_TakeNumber.mono (⟨#[128, 0]⟩ : ByteArray) 0 k) (k := 20) (r := (0, 0, 11)) (by decide +kernel)
  obtain ⟨K4, h4⟩ := number_ev 300 (by omega)
  obtain ⟨K5, h5⟩ := texts_ev [(⟨#[97]⟩ : ByteArray), (⟨#[]⟩ : ByteArray)] (by simp [room, ByteArray.size])
  refine ⟨K1 + K2 + K3 + K4 + K5, fun k hk => ?_⟩
  show ententelaw01_awake.f k = some true
  have g1 := h1 k (by omega)
  have g2 := h2 k (by omega)
  have g3 := h3 k (by omega)
  have g4 := h4 k (by omega)
  have g5 := h5 k (by omega)
  simp only [] at g1 g2 g3 g4 g5
  unfold ententelaw01_awake.f
  rw [g1, g2, g3, g4, g5]
  have n300 : numS 300 = [172, 2] := by rw [numS_big (by decide), numS_small (by decide)]; rfl
  have n1 : numS 1 = [1] := numS_small (by decide)
  have n2 : numS 2 = [2] := numS_small (by decide)
  have n0 : numS 0 = [0] := numS_small (by decide)
  have e1 : (Nm 300).toList = [172, 2] := by
    rw [Lib.toList_data]; unfold Nm
    rw [show (300 : Int).toNat = 300 from rfl, n300]; rfl
  have e2 : (Txs [(⟨#[97]⟩ : ByteArray), (⟨#[]⟩ : ByteArray)]).toList = [2, 1, 97, 0] := by
    have : Txs [(⟨#[97]⟩ : ByteArray), (⟨#[]⟩ : ByteArray)] = ⟨#[2, 1, 97, 0]⟩ := by
      apply bytesOf_inj
      unfold Txs
      simp only [cat, Tx, bytesOf_append, nm_bytes, List.length_cons, List.length_nil, bytesOf_empty]
      rw [show ((0 + 1 + 1 : Nat) : Int).toNat = 2 from rfl, show (((⟨#[97]⟩ : ByteArray).size : Nat) : Int).toNat = 1 from rfl, show (((⟨#[]⟩ : ByteArray).size : Nat) : Int).toNat = 0 from rfl, n1, n2, n0]
      rfl
    rw [this, Lib.toList_data]
  simp only [Option.bind_some, e1, e2, if_true]
  rfl
theorem rnumber_nat (n : Nat) : n < 18446744073709551616 → Ev (fun k => ententeref01_Number.f k (n : Int)) (strOfNums (numS n)) := by
  induction n using Nat.strongRecOn with
  | _ n ih =>
    intro hn
    by_cases h : n < 128
    · refine Ev.step (f := fun _ => some (strOfNums (numS n))) (fun k => ?_) (Ev.now _)
      simp only [ententeref01_Number.f]
      rw [if_pos (by omega), numS_small h]
      congr 3
      omega
    · have e := numS_big h
      have t1 : Int.tmod (n : Int) 128 = ((n % 128 : Nat) : Int) := by rw [Int.tmod_eq_emod_of_nonneg (by omega)]; omega
      have t2 : Int.tdiv (n : Int) 128 = ((n / 128 : Nat) : Int) := by rw [Int.tdiv_eq_ediv_of_nonneg (by omega)]; omega
      have u1 := uw (((n % 128 : Nat) : Int) + 128) (by omega)
      have u2 := uw (((n / 128 : Nat) : Int)) (by omega)
      have hl := numS_ten (n / 128) (by omega)
      refine Ev.step (f := fun k => (ententeref01_Number.f k ((n / 128 : Nat) : Int)).bind fun t => (if (strOfNums [((n % 128 : Nat) : Int) + 128]).size + t.size ≤ 9223372036854775807 then (some ((strOfNums [((n % 128 : Nat) : Int) + 128]) ++ t)) else (none))) (fun k => ?_) ?_
      · simp only [ententeref01_Number.f]
        rw [if_neg (by omega), t1, t2, u1, u2]
        simp only [Option.bind_some]
        rw [show (((n % 128 : Nat) : Int) + 128) % 256 = ((n % 128 : Nat) : Int) + 128 by omega]
      · refine Ev.bind (ih (n / 128) (by omega) (by omega)) ?_
        refine Ev.congr (f := fun _ => some (strOfNums (numS n))) (fun k => ?_) (Ev.now _)
        rw [if_pos (by rw [strOfNums_size, strOfNums_size]; simp; omega), e, ← Num.nums_append]
        rfl
theorem rnumber_ev (n : Int) (h : 0 ≤ n ∧ n < 18446744073709551616) : Ev (fun k => ententeref01_Number.f k n) (Nm n) := by
  obtain ⟨m, rfl⟩ := Int.eq_ofNat_of_zero_le h.1
  exact rnumber_nat m (by omega)
theorem rtext_ev (s : ByteArray) (h : s.size ≤ 140737488351232) : Ev (fun k => ententeref01_Text.f k s) (Tx s) := by
  have hn := nm_ten (s.size : Int) (by omega)
  have hu := uw (s.size : Int) (by omega)
  unfold ententeref01_Text.f
  rw [hu]
  refine Ev.bind (rnumber_ev (s.size : Int) (by omega)) ?_
  refine Ev.congr (f := fun _ => some (Tx s)) (fun k => ?_) (Ev.now _)
  rw [if_pos (by omega)]
  rfl
theorem rtexts_loop (l : List ByteArray) (hr : room l ≤ 100000000) (d : Nat) : ∀ (i : Nat) (acc : ByteArray), i + d = l.length → acc.size + room (l.drop i) ≤ 200000000 →
    Ev (fun k => ententeref01_Texts.l0 k l acc (i : Int)) (acc ++ cat (l.drop i)) := by
  induction d with
  | zero =>
    intro i acc hi hb
    refine Ev.step (f := fun _ => some (acc ++ cat (l.drop i))) (fun k => ?_) (Ev.now _)
    simp only [ententeref01_Texts.l0]
    rw [if_neg (by omega), List.drop_eq_nil_of_le (by omega)]
    simp only [cat, app_empty]
  | succ d ih =>
    intro i acc hi hb
    have hd := drop_rdOf l i (by omega)
    have hlen := room_len l
    rw [hd] at hb ⊢
    simp only [room] at hb
    simp only [cat]
    have ht := tx_size (rdOf ByteArray.empty l (i : Int)) (by omega)
    have h1 : wrap64 ((i : Int) + 1) = ((i + 1 : Nat) : Int) := by unfold wrap64; omega
    have := ih (i + 1) (acc ++ Tx (rdOf ByteArray.empty l (i : Int))) (by omega) (by rw [size_app]; omega)
    rw [app_assoc] at this
    refine Ev.step (f := fun k => (ententeref01_Text.f k (rdOf ByteArray.empty l (i : Int))).bind fun t => (if acc.size + t.size ≤ 9223372036854775807 then (ententeref01_Texts.l0 k l (acc ++ t) (wrap64 ((i : Int) + 1))) else none)) (fun k => ?_) ?_
    · simp only [ententeref01_Texts.l0]
      rw [if_pos (by omega), if_pos (by omega)]
    · refine Ev.bind (rtext_ev _ (by omega)) ?_
      rw [h1]
      exact Ev.congr (fun k => if_pos (by omega)) this
theorem rtexts_ev (l : List ByteArray) (hr : room l ≤ 100000000) : Ev (fun k => ententeref01_Texts.f k l) (Txs l) := by
  have hl := room_len l
  have hn := nm_ten (l.length : Int) (by omega)
  have hu := uw (l.length : Int) (by omega)
  unfold ententeref01_Texts.f
  rw [hu]
  refine Ev.bind (rnumber_ev (l.length : Int) (by omega)) ?_
  have := rtexts_loop l hr l.length 0 (Nm (l.length : Int)) (by omega) (by rw [List.drop_zero]; omega)
  rw [List.drop_zero] at this
  exact this
/-- What Small counts. -/
def sm : List ByteArray → Int
  | [] => 0
  | s :: l => mn (s.size : Int) 100000 + 10 + sm l
theorem sm_pos (l : List ByteArray) : 0 ≤ sm l := by
  induction l with
  | nil => simp [sm]
  | cons s l ih => simp only [sm]; unfold mn; split <;> omega
theorem small_loop (l : List ByteArray) (hl : l.length ≤ 140737488351232) (d : Nat) : ∀ (i : Nat) (n : Int), i + d = l.length → 0 ≤ n → n ≤ 50000 →
    Ev (fun k => ententelaw01_Small.l0 k l n (i : Int)) (decide (n + sm (l.drop i) ≤ 50000)) := by
  induction d with
  | zero =>
    intro i n hi h0 h1
    refine Ev.step (f := fun _ => some (decide (n + sm (l.drop i) ≤ 50000))) (fun k => ?_) (Ev.now _)
    simp only [ententelaw01_Small.l0]
    rw [if_neg (by omega), List.drop_eq_nil_of_le (by omega)]
    congr 1
    exact (decide_eq_true (by simp only [sm]; omega)).symm
  | succ d ih =>
    intro i n hi h0 h1
    have hd := drop_rdOf l i (by omega)
    have h2 : wrap64 ((i : Int) + 1) = ((i + 1 : Nat) : Int) := by unfold wrap64; omega
    have hm : 0 ≤ mn ((rdOf ByteArray.empty l (i : Int)).size : Int) 100000 ∧ mn ((rdOf ByteArray.empty l (i : Int)).size : Int) 100000 ≤ 100000 := by unfold mn; split <;> omega
    have hp := sm_pos (l.drop (i + 1))
    have es : n + sm (rdOf ByteArray.empty l (i : Int) :: l.drop (i + 1)) = n + (mn ((rdOf ByteArray.empty l (i : Int)).size : Int) 100000 + 10) + sm (l.drop (i + 1)) := by simp only [sm]; omega
    rw [hd, es]
    have hw : wrap64 (n + (mn ((rdOf ByteArray.empty l (i : Int)).size : Int) 100000 + 10)) = n + (mn ((rdOf ByteArray.empty l (i : Int)).size : Int) 100000 + 10) := wr _ (by omega)
    by_cases c : n + (mn ((rdOf ByteArray.empty l (i : Int)).size : Int) 100000 + 10) > 50000
    · refine Ev.step (f := fun _ => some false) (fun k => ?_) ?_
      · simp only [ententelaw01_Small.l0]
        rw [if_pos (by omega), if_pos (by omega), hw, if_pos c]
      · rw [decide_eq_false (by omega)]
        exact Ev.now _
    · refine Ev.step (f := fun k => ententelaw01_Small.l0 k l (n + (mn ((rdOf ByteArray.empty l (i : Int)).size : Int) 100000 + 10)) ((i + 1 : Nat) : Int)) (fun k => ?_) (ih (i + 1) _ (by omega) (by omega) (by omega))
      simp only [ententelaw01_Small.l0]
      rw [if_pos (by omega), if_pos (by omega), hw, if_neg c, h2]
theorem small_ev (l : List ByteArray) (hl : l.length ≤ 140737488351232) : Ev (fun k => ententelaw01_Small.f k l) (decide (sm l ≤ 50000)) := by
  have := small_loop l hl l.length 0 0 (by omega) (by omega) (by omega)
  rw [List.drop_zero, Int.zero_add] at this
  exact this
theorem small_room (l : List ByteArray) (h : sm l ≤ 50000) : room l ≤ 50000 := by
  have gen : ∀ l : List ByteArray, sm l ≤ 50000 → (room l : Int) = sm l := by
    intro l
    induction l with
    | nil => intro _; simp [room, sm]
    | cons s l ih =>
      intro h
      simp only [sm] at h
      have hp := sm_pos l
      have hm : mn (s.size : Int) 100000 ≤ 50000 := by unfold mn at h ⊢; split at h <;> omega
      have he : mn (s.size : Int) 100000 = (s.size : Int) := by unfold mn at hm ⊢; split at hm <;> omega
      have := ih (by unfold mn at h; split at h <;> omega)
      simp only [room, sm]
      rw [he]
      omega
  have := gen l h
  omega
theorem each_loop (l : List ByteArray) (hr : room l ≤ 50000) (d : Nat) : ∀ i : Nat, i + d = l.length → (∀ x ∈ l.drop i, x.size ≤ 140737488351232) → Ev (fun k => ententelaw01_PackTexts.l0 k l (i : Int)) true := by
  induction d with
  | zero =>
    intro i hi _
    refine Ev.step (f := fun k => (pack_Texts.f k l).bind fun t142 => ((ententeref01_Texts.f k l).bind fun t143 => (if t142.toList = t143.toList then ((ententelaw01_awake.f k).bind fun t144 => (some t144)) else (some false)))) (fun k => ?_) ?_
    · simp only [ententelaw01_PackTexts.l0]
      rw [if_neg (by omega)]
    · refine Ev.bind (texts_ev l (by omega)) (Ev.bind (rtexts_ev l (by omega)) ?_)
      exact Ev.congr (fun k => if_pos rfl) (Ev.bind awake_ev (Ev.now true))
  | succ d ih =>
    intro i hi hx
    have hd := drop_rdOf l i (by omega)
    have hl := room_len l
    have h1 : wrap64 ((i : Int) + 1) = ((i + 1 : Nat) : Int) := by unfold wrap64; omega
    rw [hd] at hx
    refine Ev.step (f := fun k => (pack_Text.f k (rdOf ByteArray.empty l (i : Int))).bind fun t146 => ((ententeref01_Text.f k (rdOf ByteArray.empty l (i : Int))).bind fun t148 => (if t146.toList = t148.toList then (ententelaw01_PackTexts.l0 k l (wrap64 ((i : Int) + 1))) else (some false)))) (fun k => ?_) ?_
    · simp only [ententelaw01_PackTexts.l0]
      rw [if_pos (by omega), if_pos (by omega)]
    · refine Ev.bind (text_ev _ (hx _ (List.mem_cons_self ..))) (Ev.bind (rtext_ev _ (hx _ (List.mem_cons_self ..))) ?_)
      rw [h1]
      exact Ev.congr (fun k => if_pos rfl) (ih (i + 1) (by omega) (fun x hx' => hx x (List.mem_cons_of_mem _ hx')))
theorem PackTexts : ententelaw01_PackTexts.Pure := by
  intro l ⟨_, hb, hs⟩
  refine Ev.rounds (g := fun k => ententelaw01_PackTexts.f k l) ?_
  unfold ententelaw01_PackTexts.f
  refine Ev.bind (small_ev l (by omega)) ?_
  by_cases c : sm l ≤ 50000
  · rw [decide_eq_true c]
    exact Ev.congr (fun k => if_pos rfl) (each_loop l (small_room l c) l.length 0 (by omega) (by rw [List.drop_zero]; exact hs))
  · rw [decide_eq_false c]
    exact Ev.congr (fun k => if_neg (by simp)) (Ev.bind awake_ev (Ev.now true))

end Go.Proofs.Ytfhffabnllicdaa.Pure
