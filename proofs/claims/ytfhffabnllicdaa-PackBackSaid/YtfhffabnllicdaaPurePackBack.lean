/- PackBack: proved for all arguments; no condition. -/
import Derived.Test.YtfhffabnllicdaaNum
import Derived.Test.YtfhffabnllicdaaPCx3
namespace Go.Proofs.Ytfhffabnllicdaa.Pure
open Go.RowKit Go.Proofs.Ytfhffabnllicdaa.PC Go.Proofs.YtfhffabnllicdaaW.PrintWords Go.Proofs.YtfhffabnllicdaaW.PrintLast Go.Proofs.YtfhffabnllicdaaW.PrintMore Go.Proofs.Ytfhffabnllicdaa.Num
set_option linter.unusedVariables false
set_option linter.unusedSimpArgs false

/-- A number's form. -/
def Nm (n : Int) : ByteArray := strOfNums (numS n.toNat)
theorem nm_bytes (n : Int) : bytesOf (Nm n) = numS n.toNat := bytesOf_nums _ (numS_byte _)
theorem nm_size (n : Int) : (Nm n).size = (numS n.toNat).length := by rw [← size_bytesOf, nm_bytes]
theorem nm_ten (n : Int) (h : 0 ≤ n ∧ n < 18446744073709551616) : 1 ≤ (Nm n).size ∧ (Nm n).size ≤ 10 := by
  rw [nm_size]
  exact ⟨numS_pos _, numS_ten _ (by omega)⟩
theorem number_loop (n : Nat) : ∀ acc : List Int, acc.length + (numS n).length ≤ 1000 → Ev (fun k => pack_Number.l0 k (n : Int) acc) (strOfNums (acc ++ numS n)) := by
  induction n using Nat.strongRecOn with
  | _ n ih =>
    intro acc hl
    have hp := numS_pos n
    by_cases h : n < 128
    · refine Ev.step (f := fun _ => some (strOfNums (acc ++ numS n))) (fun k => ?_) (Ev.now _)
      simp only [pack_Number.l0]
      rw [if_neg (by omega), if_pos (by omega), numS_small h]
      congr 4
      omega
    · have e := numS_big h
      rw [e, List.length_cons] at hl
      have := ih (n / 128) (by omega) (acc ++ [((n % 128 + 128 : Nat) : Int)]) (by rw [List.length_append, List.length_singleton]; omega)
      rw [e]
      rw [List.append_assoc, List.singleton_append] at this
      refine Ev.step (fun k => ?_) this
      simp only [pack_Number.l0]
      rw [if_pos (by omega), if_pos (by omega), or128 _ (by omega)]
      have q1 : (n : Int) / 128 = ((n / 128 : Nat) : Int) := by omega
      have q2 : (n : Int) % 256 % 128 + 128 = ((n % 128 + 128 : Nat) : Int) := by omega
      rw [q1, q2]
theorem number_ev (n : Int) (h : 0 ≤ n ∧ n < 18446744073709551616) : Ev (fun k => pack_Number.f k n) (Nm n) := by
  obtain ⟨m, rfl⟩ := Int.eq_ofNat_of_zero_le h.1
  have := number_loop m [] (by have := numS_ten m (by omega); simp; omega)
  rw [List.nil_append] at this
  exact this
/-- A text's form. -/
def Tx (s : ByteArray) : ByteArray := Nm (s.size : Int) ++ s
theorem size_app (s t : ByteArray) : (s ++ t).size = s.size + t.size := by
  rw [← size_bytesOf, bytesOf_append, List.length_append, size_bytesOf, size_bytesOf]
theorem tx_size (s : ByteArray) (h : s.size ≤ 140737488351232) : (Tx s).size ≤ s.size + 10 := by
  unfold Tx
  have := (nm_ten (s.size : Int) (by omega)).2
  rw [size_app]; omega
theorem text_ev (s : ByteArray) (h : s.size ≤ 140737488351232) : Ev (fun k => pack_Text.f k s) (Tx s) := by
  have hn := nm_ten (s.size : Int) (by omega)
  have hu := uw (s.size : Int) (by omega)
  unfold pack_Text.f
  rw [hu]
  refine Ev.bind (number_ev (s.size : Int) (by omega)) ?_
  refine Ev.congr (f := fun _ => some (Tx s)) (fun k => ?_) (Ev.now _)
  rw [if_pos (by omega)]
  rfl
/-- Texts, one behind the other, laid. -/
def cat : List ByteArray → ByteArray
  | [] => ByteArray.empty
  | s :: l => Tx s ++ cat l
def Txs (l : List ByteArray) : ByteArray := Nm (l.length : Int) ++ cat l
/-- How long texts are, each with ten bytes more. -/
def room : List ByteArray → Nat
  | [] => 0
  | s :: l => s.size + 10 + room l
theorem cat_size (l : List ByteArray) (h : room l ≤ 140737488351232) : (cat l).size ≤ room l := by
  induction l with
  | nil => simp [cat, room]
  | cons s l ih =>
    simp only [room] at h ⊢
    simp only [cat]
    have := tx_size s (by omega)
    have := ih (by omega)
    rw [size_app]; omega
theorem drop_rdOf (l : List ByteArray) (i : Nat) (h : i < l.length) : l.drop i = rdOf ByteArray.empty l (i : Int) :: l.drop (i + 1) := by
  rw [List.drop_eq_getElem_cons h]
  congr 1
  unfold rdOf
  simp [List.getD_eq_getElem?_getD, List.getElem?_eq_getElem h]
theorem app_assoc (a b c : ByteArray) : a ++ b ++ c = a ++ (b ++ c) := bytesOf_inj (by simp only [bytesOf_append, List.append_assoc])
theorem app_empty (a : ByteArray) : a ++ ByteArray.empty = a := bytesOf_inj (by simp only [bytesOf_append, bytesOf_empty, List.append_nil])
theorem texts_loop (l : List ByteArray) (hr : room l ≤ 100000000) (d : Nat) : ∀ (i : Nat) (acc : ByteArray), i + d = l.length → acc.size + room (l.drop i) ≤ 200000000 →
    Ev (fun k => pack_Texts.l0 k l (i : Int) acc) (acc ++ cat (l.drop i)) := by
  induction d with
  | zero =>
    intro i acc hi hb
    refine Ev.step (f := fun _ => some (acc ++ cat (l.drop i))) (fun k => ?_) (Ev.now _)
    simp only [pack_Texts.l0]
    rw [if_neg (by omega), List.drop_eq_nil_of_le (by omega)]
    simp only [cat, app_empty]
  | succ d ih =>
    intro i acc hi hb
    have hd := drop_rdOf l i (by omega)
    have hlen : l.length ≤ room l := by
      clear ih hi hb hd hr
      induction l with
      | nil => simp [room]
      | cons s l ih => simp only [room, List.length_cons]; omega
    rw [hd] at hb ⊢
    simp only [room] at hb
    simp only [cat]
    have ht := tx_size (rdOf ByteArray.empty l (i : Int)) (by omega)
    have h1 : wrap64 ((i : Int) + 1) = ((i + 1 : Nat) : Int) := by unfold wrap64; omega
    have := ih (i + 1) (acc ++ Tx (rdOf ByteArray.empty l (i : Int))) (by omega) (by rw [size_app]; omega)
    rw [app_assoc] at this
    refine Ev.step (f := fun k => (pack_Text.f k (rdOf ByteArray.empty l (i : Int))).bind fun t => (if acc.size + t.size ≤ 140737488355328 then (pack_Texts.l0 k l (wrap64 ((i : Int) + 1)) (acc ++ t)) else none)) (fun k => ?_) ?_
    · simp only [pack_Texts.l0]
      rw [if_pos (by omega), if_pos (by omega)]
    · refine Ev.bind (text_ev _ (by omega)) ?_
      rw [h1]
      exact Ev.congr (fun k => if_pos (by omega)) this
theorem room_len (l : List ByteArray) : 10 * l.length ≤ room l := by
  induction l with
  | nil => simp [room]
  | cons s l ih => simp only [room, List.length_cons]; omega
theorem texts_ev (l : List ByteArray) (hr : room l ≤ 100000000) : Ev (fun k => pack_Texts.f k l) (Txs l) := by
  have hl := room_len l
  have hn := nm_ten (l.length : Int) (by omega)
  have hu := uw (l.length : Int) (by omega)
  unfold pack_Texts.f
  rw [hu]
  refine Ev.bind (number_ev (l.length : Int) (by omega)) ?_
  have := texts_loop l hr l.length 0 (Nm (l.length : Int)) (by omega) (by rw [List.drop_zero]; omega)
  rw [List.drop_zero] at this
  exact Ev.congr (fun k => if_pos (by omega)) this
theorem awake_ev : Ev (fun k => ententelaw01_awake.f k) true := by
  obtain ⟨K1, h1⟩ := Ev.of (fun k => pack_TakeNumber.mono (⟨#[172, 2]⟩ : ByteArray) 0 k) (k := 20) (r := (300, 2, 0)) (by decide +kernel)
  obtain ⟨K2, h2⟩ := Ev.of (fun k => pack_TakeSigned.mono (⟨#[1]⟩ : ByteArray) 0 k) (k := 20) (r := (-1, 1, 0)) (by decide +kernel)
  obtain ⟨K3, h3⟩ := Ev.of (fun k => pack_TakeNumber.mono (⟨#[128, 0]⟩ : ByteArray) 0 k) (k := 20) (r := (0, 0, 11)) (by decide +kernel)
  obtain ⟨K4, h4⟩ := number_ev 300 (by omega)
  obtain ⟨K5, h5⟩ := texts_ev [(⟨#[97]⟩ : ByteArray), (⟨#[]⟩ : ByteArray)] (by simp [room, ByteArray.size])
  refine ⟨K1 + K2 + K3 + K4 + K5, fun k hk => ?_⟩
  show ententelaw01_awake.f k = some true
  have g1 := h1 k (by omega)
  have g2 := h2 k (by omega)
  have g3 := h3 k (by omega)
  have g4 := h4 k (by omega)
  have g5 := h5 k (by omega)
  simp only [] at g1 g2 g3 g4 g5
  unfold ententelaw01_awake.f
  rw [g1, g2, g3, g4, g5]
  have n300 : numS 300 = [172, 2] := by rw [numS_big (by decide), numS_small (by decide)]; rfl
  have n1 : numS 1 = [1] := numS_small (by decide)
  have n2 : numS 2 = [2] := numS_small (by decide)
  have n0 : numS 0 = [0] := numS_small (by decide)
  have e1 : (Nm 300).toList = [172, 2] := by
    rw [Lib.toList_data]; unfold Nm
    rw [show (300 : Int).toNat = 300 from rfl, n300]; rfl
  have e2 : (Txs [(⟨#[97]⟩ : ByteArray), (⟨#[]⟩ : ByteArray)]).toList = [2, 1, 97, 0] := by
    have : Txs [(⟨#[97]⟩ : ByteArray), (⟨#[]⟩ : ByteArray)] = ⟨#[2, 1, 97, 0]⟩ := by
      apply bytesOf_inj
      unfold Txs
      simp only [cat, Tx, bytesOf_append, nm_bytes, List.length_cons, List.length_nil, bytesOf_empty]
      rw [show ((0 + 1 + 1 : Nat) : Int).toNat = 2 from rfl, show (((⟨#[97]⟩ : ByteArray).size : Nat) : Int).toNat = 1 from rfl, show (((⟨#[]⟩ : ByteArray).size : Nat) : Int).toNat = 0 from rfl, n1, n2, n0]
      rfl
    rw [this, Lib.toList_data]
  simp only [Option.bind_some, e1, e2, if_true]
  rfl
/-- What is taken at a place: the number, the place behind, the error. -/
def TN (s : ByteArray) (at_ : Int) : Int × Int × Int :=
  if at_ < 0 ∨ at_ > (s.size : Int) then (0, 0, 2) else
    ((tnS ((bytesOf s).drop at_.toNat) 0 0).1, (if (tnS ((bytesOf s).drop at_.toNat) 0 0).2.2 = 0 then at_ + (tnS ((bytesOf s).drop at_.toNat) 0 0).2.1 else 0), (tnS ((bytesOf s).drop at_.toNat) 0 0).2.2)
def rel (a : Int) (r : Int × Int × Int) : Int × Int × Int := (r.1, (if r.2.2 = 0 then a + r.2.1 else 0), r.2.2)
theorem rel_err (a e : Int) (h : e ≠ 0) : rel a (0, 0, e) = (0, 0, e) := by unfold rel; rw [if_neg h]
theorem rel_ok (a n c : Int) : rel a (n, c, 0) = (n, a + c, 0) := by unfold rel; rw [if_pos rfl]
theorem tnS_nil (i : Nat) (n : Int) : tnS [] i n = if i < 10 then (0, 0, 10) else (0, 0, 11) := rfl
theorem tnS_cons (c : Int) (l : List Int) (i : Nat) (n : Int) : tnS (c :: l) i n = if 10 ≤ i then (0, 0, 11) else if i = 9 ∧ c > 1 then (0, 0, 11) else if c ≥ 128 then tnS l (i + 1) (n + c % 128 * 128 ^ i) else if c = 0 ∧ i > 0 then (0, 0, 11) else (n + c * 128 ^ i, i + 1, 0) := rfl
theorem pow7 (i : Nat) : (2 : Int) ^ (7 * i) = 128 ^ i := by rw [Int.pow_mul]; rfl
theorem pow7n (i : Nat) : (2 : Nat) ^ (7 * i) = 128 ^ i := by rw [Nat.pow_mul]
theorem pow_le (i : Nat) (h : i ≤ 9) : (128 : Nat) ^ i ≤ 9223372036854775808 := by
  have := Nat.pow_le_pow_right (show 0 < 128 by decide) h
  have e : (128 : Nat) ^ 9 = 9223372036854775808 := by decide
  omega
/-- Seven bits more. -/
theorem or_more (n c : Int) (i : Nat) (hi : i ≤ 9) (hn : 0 ≤ n ∧ n < 128 ^ i) (hc : 0 ≤ c ∧ c < 256) (h9 : i = 9 → c ≤ 1) :
    Go.bits .or .u64 n (shl .u64 (IntKind.u64.wrap (Go.bits .and .u8 c 127)) (IntKind.u64.wrap (wrap64 (7 * (i : Int))))) = n + c % 128 * 128 ^ i := by
  rw [and127 c hc, uw (c % 128) (by omega), wr (7 * (i : Int)) (by omega), uw (7 * (i : Int)) (by omega)]
  unfold shl
  have e1 : min (7 * (i : Int)).toNat IntKind.u64.bits = 7 * i := by simp [IntKind.bits]; omega
  rw [e1, pow7]
  obtain ⟨m, rfl⟩ := Int.eq_ofNat_of_zero_le hn.1
  obtain ⟨d, hd⟩ := Int.eq_ofNat_of_zero_le (show 0 ≤ c % 128 by omega)
  rw [hd]
  have hp := pow_le i hi
  have hm : m < 128 ^ i := by
    have := hn.2
    have q : ((128 ^ i : Nat) : Int) = (128 : Int) ^ i := by simp
    omega
  have hq : ((d * 128 ^ i : Nat) : Int) = (d : Int) * 128 ^ i := by simp
  have hy : d * 128 ^ i < 18446744073709551616 := by
    by_cases h : i = 9
    · have := h9 h
      have hd1 : d ≤ 1 := by omega
      have : d * 128 ^ i ≤ 1 * 128 ^ i := Nat.mul_le_mul_right _ hd1
      omega
    · have h8 : (128 : Nat) ^ i ≤ 128 ^ 8 := Nat.pow_le_pow_right (by decide) (by omega)
      have e8 : (128 : Nat) ^ 8 = 72057594037927936 := by decide
      have : d * 128 ^ i ≤ 127 * 72057594037927936 := Nat.mul_le_mul (by omega) (by omega)
      omega
  rw [← hq, uw _ (by omega)]
  exact or_join m (d * 128 ^ i) (7 * i) (by rw [pow7n]; exact hm) (by rw [pow7n]; exact Nat.mul_mod_left _ _) (by omega) (by omega)
theorem rd_drop_bt (s : ByteArray) (a : Nat) (h : a < s.size) : (bytesOf s).drop a = bt s (a : Int) :: (bytesOf s).drop (a + 1) := by
  rw [drop_cons _ a (by rw [bytesOf_length]; exact h), rd_bytesOf]
theorem take_loop (s : ByteArray) (hs : s.size ≤ 140737488351232) (a d : Nat) : ∀ (i : Nat) (n : Int), i + d = 10 → a + i ≤ s.size → 0 ≤ n → n < 128 ^ i →
    Ev (fun k => pack_TakeNumber.l0 k s (a : Int) n (i : Int)) (rel (a : Int) (tnS ((bytesOf s).drop (a + i)) i n)) := by
  induction d with
  | zero =>
    intro i n hi ha h0 h1
    refine Ev.step (f := fun _ => some (0, 0, 11)) (fun k => ?_) ?_
    · simp only [pack_TakeNumber.l0]
      rw [if_neg (by omega)]
    · have : rel (a : Int) (tnS ((bytesOf s).drop (a + i)) i n) = (0, 0, 11) := by
        cases (bytesOf s).drop (a + i) with
        | nil => rw [tnS_nil, if_neg (by omega), rel_err _ _ (by decide)]
        | cons c l => rw [tnS_cons, if_pos (by omega), rel_err _ _ (by decide)]
      rw [this]
      exact Ev.now _
  | succ d ih =>
    intro i n hi ha h0 h1
    have w1 : wrap64 ((a : Int) + (i : Int)) = ((a + i : Nat) : Int) := by unfold wrap64; omega
    have w2 : wrap64 ((i : Int) + 1) = ((i + 1 : Nat) : Int) := by unfold wrap64; omega
    have hz : IntKind.u64.wrap (wrap64 (7 * (i : Int))) = 7 * (i : Int) := by rw [wr _ (by omega), uw _ (by omega)]
    by_cases c0 : a + i = s.size
    · refine Ev.step (f := fun _ => some (0, 0, 10)) (fun k => ?_) ?_
      · simp only [pack_TakeNumber.l0]
        rw [if_pos (by omega), w1, if_pos (by omega)]
      · rw [List.drop_eq_nil_of_le (by rw [bytesOf_length]; omega)]
        rw [tnS_nil, if_pos (by omega), rel_err _ _ (by decide)]
        exact Ev.now _
    · have hb := bt_range s ((a + i : Nat) : Int)
      rw [rd_drop_bt s (a + i) (by omega)]
      obtain ⟨c, hc⟩ : ∃ c, bt s ((a + i : Nat) : Int) = c := ⟨_, rfl⟩
      rw [hc] at hb ⊢
      have head : ∀ k, pack_TakeNumber.l0 (k + 1) s (a : Int) n (i : Int) = pack_TakeNumber.j2 k s (a : Int) n (i : Int) c (i : Int) (decide (i = 9 ∧ c > 1)) := fun k => by
        simp only [pack_TakeNumber.l0]
        rw [if_pos (by omega), w1, if_neg (by omega), if_pos (by omega), if_pos (by omega), hc]
        by_cases h9 : i = 9
        · rw [if_pos (by omega)]
          congr 1
          simp [h9]
        · rw [if_neg (by omega)]
          congr 1
          simp [h9]
      by_cases c1 : i = 9 ∧ c > 1
      · refine ev_shift 2 (f := fun _ => some (0, 0, 11)) (fun k => ?_) ?_
        · rw [head, decide_eq_true c1, pack_TakeNumber.j2, if_pos rfl]
        · rw [tnS_cons, if_neg (by omega), if_pos c1, rel_err _ _ (by decide)]
          exact Ev.now _
      · have hm := or_more n c i (by omega) ⟨h0, h1⟩ ⟨hb.1, by omega⟩ (fun h => by omega)
        by_cases c2 : c ≥ 128
        · have hlt : n + c % 128 * 128 ^ i < 128 ^ (i + 1) := by
            have p0 : (0 : Int) ≤ 128 ^ i := by omega
            have : c % 128 * 128 ^ i ≤ 127 * 128 ^ i := Int.mul_le_mul_of_nonneg_right (by omega) p0
            rw [Int.pow_succ]
            omega
          have hge : 0 ≤ n + c % 128 * 128 ^ i := by
            have p0 : (0 : Int) ≤ 128 ^ i := by omega
            have : 0 ≤ c % 128 * 128 ^ i := Int.mul_nonneg (by omega) p0
            omega
          have := ih (i + 1) (n + c % 128 * 128 ^ i) (by omega) (by omega) hge hlt
          rw [tnS_cons, if_neg (by omega), if_neg c1, if_pos c2]
          refine ev_shift 2 (fun k => ?_) this
          rw [head, decide_eq_false c1, pack_TakeNumber.j2, if_neg (by simp), hz, if_pos (by omega), if_pos c2, ← hz, hm, w2]
        · have h128 : c % 128 = c := by omega
          rw [h128] at hm
          rw [tnS_cons, if_neg (by omega), if_neg c1, if_neg c2]
          by_cases c3 : c = 0 ∧ i > 0
          · rw [if_pos c3, rel_err _ _ (by decide)]
            refine ev_shift 2 (f := fun _ => some (0, 0, 11)) (fun k => ?_) (Ev.now _)
            rw [head, decide_eq_false c1, pack_TakeNumber.j2, if_neg (by simp), hz, if_pos (by omega), if_neg c2, if_pos c3.1, if_pos (by omega)]
          · rw [if_neg c3, rel_ok]
            have w3 : wrap64 ((wrap64 ((a : Int) + (i : Int))) + 1) = (a : Int) + ((i : Int) + 1) := by rw [w1]; unfold wrap64; omega
            refine ev_shift 2 (f := fun _ => some (n + c * 128 ^ i, (a : Int) + ((i : Int) + 1), 0)) (fun k => ?_) ?_
            · rw [head, decide_eq_false c1, pack_TakeNumber.j2, if_neg (by simp), if_pos (by rw [hz]; omega), if_neg c2, hm, w3]
              by_cases c4 : c = 0
              · rw [if_pos c4, if_neg (by omega)]
              · rw [if_neg c4]
            · exact Ev.now _
theorem take_ev (s : ByteArray) (hs : s.size ≤ 140737488351232) (a : Int) : Ev (fun k => pack_TakeNumber.f k s a) (TN s a) := by
  have bad : Ev (fun k => pack_TakeNumber.j0 k s a true) (0, 0, 2) := Ev.step (f := fun _ => some (0, 0, 2)) (fun k => by simp only [pack_TakeNumber.j0, if_true]) (Ev.now _)
  by_cases c1 : a < 0
  · have : TN s a = (0, 0, 2) := if_pos (.inl c1)
    rw [this]
    exact Ev.congr (fun k => by unfold pack_TakeNumber.f; rw [if_pos c1]) bad
  by_cases c2 : a > (s.size : Int)
  · have : TN s a = (0, 0, 2) := if_pos (.inr c2)
    rw [this]
    exact Ev.congr (fun k => by unfold pack_TakeNumber.f; rw [if_neg c1, decide_eq_true c2]) bad
  obtain ⟨m, rfl⟩ := Int.eq_ofNat_of_zero_le (show 0 ≤ a by omega)
  have : TN s (m : Int) = rel (m : Int) (tnS ((bytesOf s).drop (m + 0)) 0 0) := if_neg (by omega)
  rw [this]
  refine Ev.congr (f := fun k => pack_TakeNumber.j0 k s (m : Int) false) (fun k => by unfold pack_TakeNumber.f; rw [if_neg c1, decide_eq_false c2]) ?_
  refine Ev.step (fun k => ?_) (take_loop s hs m 10 0 0 (by omega) (by omega) (by omega) (by decide))
  simp only [pack_TakeNumber.j0, Bool.false_eq_true, if_false]
  rfl
theorem tn_facts (s : ByteArray) (hs : s.size ≤ 140737488351232) (a : Int) : (TN s a).2.2 ≠ 0 ∧ (TN s a).1 = 0 ∧ (TN s a).2.1 = 0 ∨ (TN s a).2.2 = 0 ∧ 0 ≤ (TN s a).1 ∧ (TN s a).1 < 18446744073709551616 ∧ 0 ≤ a ∧ a < (TN s a).2.1 ∧ (TN s a).2.1 ≤ (s.size : Int) := by
  by_cases c : a < 0 ∨ a > (s.size : Int)
  · have : TN s a = (0, 0, 2) := if_pos c
    rw [this]; left; simp
  · have e : TN s a = rel a (tnS ((bytesOf s).drop a.toNat) 0 0) := if_neg c
    rw [e]
    rcases tnS_err ((bytesOf s).drop a.toNat) 0 0 with h | ⟨h1, h2, h3⟩
    · right
      obtain ⟨m, r, h4, h5, h6, h7, h8⟩ := tnS_ok _ (fun x hx => bytesOf_byte s x (List.mem_of_mem_drop hx)) h
      rw [h7]
      have hl := congrArg List.length h4
      rw [List.length_drop, bytesOf_length, List.length_append] at hl
      have hp : 1 ≤ m.length := by
        match m, h5 with
        | [], h5 => exact absurd h5 (by simp [Canon])
        | x :: m, _ => simp
      have hv := valS_nonneg m
      rw [rel_ok]
      exact ⟨rfl, hv, h8, by show 0 ≤ a; omega, by show a < a + (m.length : Int); omega, by show a + (m.length : Int) ≤ _; omega⟩
    · left
      have h4 : (tnS ((bytesOf s).drop a.toNat) 0 0).2.2 ≠ 0 := by omega
      exact ⟨h4, h1, if_neg h4⟩
/-- What is taken as a text. -/
def TT (s : ByteArray) (a : Int) : ByteArray × Int × Int :=
  if (TN s a).2.2 = 0 then (if (TN s a).1 > (s.size : Int) - (TN s a).2.1 then (ByteArray.empty, 0, 10) else (s.extract (TN s a).2.1.toNat ((TN s a).2.1 + (TN s a).1).toNat, (TN s a).2.1 + (TN s a).1, 0)) else (ByteArray.empty, 0, (TN s a).2.2)
theorem taketext_ev (s : ByteArray) (hs : s.size ≤ 140737488351232) (a : Int) : Ev (fun k => pack_TakeText.f k s a) (TT s a) := by
  unfold pack_TakeText.f
  refine Ev.bind (take_ev s hs a) ?_
  refine Ev.congr (f := fun _ => some (TT s a)) (fun k => ?_) (Ev.now _)
  unfold TT
  rcases tn_facts s hs a with ⟨h, _, _⟩ | ⟨h, h1, h2, h3, h4, h5⟩
  · rw [if_neg h, if_neg h]; rfl
  · rw [if_pos h, if_pos h, wr ((s.size : Int) - (TN s a).2.1) (by omega), uw ((s.size : Int) - (TN s a).2.1) (by omega)]
    by_cases c : (TN s a).1 > (s.size : Int) - (TN s a).2.1
    · rw [if_pos c, if_pos c]; rfl
    · rw [if_neg c, if_neg c, wr (TN s a).1 (by omega), wr ((TN s a).2.1 + (TN s a).1) (by omega), if_pos (by omega), if_pos (by omega), if_pos (by omega)]
/-- The number that may be below 0. -/
def sg (n : Int) : Int := if n % 2 = 0 then n / 2 else -(n / 2) - 1
theorem takesigned_ev (s : ByteArray) (hs : s.size ≤ 140737488351232) (a : Int) : Ev (fun k => pack_TakeSigned.f k s a) (sg (TN s a).1, (TN s a).2.1, (TN s a).2.2) := by
  unfold pack_TakeSigned.f
  refine Ev.bind (take_ev s hs a) ?_
  refine Ev.congr (f := fun _ => some (sg (TN s a).1, (TN s a).2.1, (TN s a).2.2)) (fun k => ?_) (Ev.now _)
  have hb : 0 ≤ (TN s a).1 ∧ (TN s a).1 < 18446744073709551616 := by
    rcases tn_facts s hs a with ⟨_, h, _⟩ | ⟨_, h1, h2, _⟩ <;> omega
  congr 2
  rw [and1 _ hb, wr ((TN s a).1 / 2) (by omega), wr ((TN s a).1 % 2) (by omega), wr (-((TN s a).1 % 2)) (by omega)]
  unfold sg
  by_cases c : (TN s a).1 % 2 = 0
  · rw [if_pos c, c, Int.neg_zero, xor_i0 _ (by omega)]
  · rw [if_neg c, show (TN s a).1 % 2 = 1 by omega, xor_im _ (by omega)]
theorem signed_ev (n : Int) (h : -9223372036854775808 ≤ n ∧ n ≤ 9223372036854775807) : Ev (fun k => pack_Signed.f k n) (Nm (if 0 ≤ n then 2 * n else -2 * n - 1)) := by
  unfold pack_Signed.f
  have e : Go.bits .xor .u64 (IntKind.u64.wrap ((IntKind.u64.wrap n) * 2)) (IntKind.u64.wrap (n / 9223372036854775808)) = if 0 ≤ n then 2 * n else -2 * n - 1 := by
    by_cases c : 0 ≤ n
    · rw [if_pos c, uw n (by omega), uw (n * 2) (by omega), show n / 9223372036854775808 = 0 by omega, uw 0 (by omega), xor_zero _ (by omega)]
      omega
    · rw [if_neg c, show n / 9223372036854775808 = -1 by omega, uw_eq, uw_eq, uw_eq, show ((-1 : Int) % 18446744073709551616) = 18446744073709551615 by decide, xor_ones _ (by omega)]
      omega
  rw [e]
  refine Ev.bind (number_ev _ (by split <;> omega)) (Ev.now _)
/-- A text that is taken ends behind the place, within the bytes. -/
theorem tt_facts (s : ByteArray) (hs : s.size ≤ 140737488351232) (a : Int) : (TT s a).2.2 ≠ 0 ∨ (TT s a).2.2 = 0 ∧ 0 ≤ a ∧ a < (TT s a).2.1 ∧ (TT s a).2.1 ≤ (s.size : Int) := by
  unfold TT
  rcases tn_facts s hs a with ⟨h, _, _⟩ | ⟨h, h1, h2, h3, h4, h5⟩
  · left; rw [if_neg h]; exact h
  · rw [if_pos h]
    by_cases c : (TN s a).1 > (s.size : Int) - (TN s a).2.1
    · left; rw [if_pos c]; decide
    · right; rw [if_neg c]
      exact ⟨rfl, h3, by show a < (TN s a).2.1 + (TN s a).1; omega, by show (TN s a).2.1 + (TN s a).1 ≤ _; omega⟩
/-- Texts, taken one behind the other: n of them are missing. -/
def TL (s : ByteArray) : Nat → Int → Int → List ByteArray → List ByteArray × Int × Int
  | 0, _, a, l => (l, a, 0)
  | d + 1, n, a, l => if n > 0 then (if (TT s a).2.2 = 0 then TL s d (n - 1) (TT s a).2.1 (l ++ [(TT s a).1]) else ([], 0, (TT s a).2.2)) else (l, a, 0)
def TLs (s : ByteArray) (a : Int) : List ByteArray × Int × Int :=
  if (TN s a).2.2 = 0 then TL s (s.size + 1) (TN s a).1 (TN s a).2.1 [] else ([], 0, (TN s a).2.2)
theorem list_loop (s : ByteArray) (hs : s.size ≤ 100000) (d : Nat) : ∀ (n a : Int) (l : List ByteArray), 0 ≤ n → n < 18446744073709551616 → 0 ≤ a → a ≤ (s.size : Int) → (s.size : Int) - a < (d : Int) → l.length + d ≤ 1000000 →
    Ev (fun k => pack_TakeTexts.l0 k n s a l) (TL s d n a l) := by
  induction d with
  | zero => intro n a l _ _ _ _ _; omega
  | succ d ih =>
    intro n a l h0 h1 h2 h3 h4 h5
    by_cases c : n > 0
    · rw [TL, if_pos c]
      refine Ev.step (f := fun k => (pack_TakeText.f k s a).bind fun bt => (if bt.2.2 = 0 then (pack_TakeTexts.l0 k (n - 1) s bt.2.1 (l ++ [bt.1])) else (some ([], 0, bt.2.2)))) (fun k => ?_) ?_
      · rw [pack_TakeTexts.l0, if_pos c, if_pos (by omega), uw (n - 1) (by omega)]
      · refine Ev.bind (taketext_ev s (by omega) a) ?_
        rcases tt_facts s (by omega) a with h | ⟨h, g1, g2, g3⟩
        · rw [if_neg h]
          exact Ev.congr (fun k => if_neg h) (Ev.now _)
        · rw [if_pos h]
          refine Ev.congr (fun k => if_pos h) (ih (n - 1) _ _ (by omega) (by omega) (by omega) g3 (by omega) ?_)
          rw [List.length_append, List.length_singleton]; omega
    · rw [TL, if_neg c]
      refine Ev.step (f := fun _ => some (l, a, 0)) (fun k => ?_) (Ev.now _)
      rw [pack_TakeTexts.l0, if_neg c]
theorem list_ev (s : ByteArray) (hs : s.size ≤ 100000) (a : Int) : Ev (fun k => pack_TakeTexts.f k s a) (TLs s a) := by
  unfold pack_TakeTexts.f TLs
  refine Ev.bind (take_ev s (by omega) a) ?_
  rcases tn_facts s (by omega) a with ⟨h, _, _⟩ | ⟨h, h1, h2, h3, h4, h5⟩
  · rw [if_neg h]
    exact Ev.congr (fun k => if_neg h) (Ev.now _)
  · rw [if_pos h]
    refine Ev.congr (fun k => if_pos h) (list_loop s hs (s.size + 1) _ _ [] h1 h2 (by omega) h5 (by omega) ?_)
    simp only [List.length_nil]; omega
/-- What Small counts. -/
def sm : List ByteArray → Int
  | [] => 0
  | s :: l => mn (s.size : Int) 100000 + 10 + sm l
theorem sm_pos (l : List ByteArray) : 0 ≤ sm l := by
  induction l with
  | nil => simp [sm]
  | cons s l ih => simp only [sm]; unfold mn; split <;> omega
theorem small_loop (l : List ByteArray) (hl : l.length ≤ 140737488351232) (d : Nat) : ∀ (i : Nat) (n : Int), i + d = l.length → 0 ≤ n → n ≤ 50000 →
    Ev (fun k => ententelaw01_Small.l0 k l n (i : Int)) (decide (n + sm (l.drop i) ≤ 50000)) := by
  induction d with
  | zero =>
    intro i n hi h0 h1
    refine Ev.step (f := fun _ => some (decide (n + sm (l.drop i) ≤ 50000))) (fun k => ?_) (Ev.now _)
    simp only [ententelaw01_Small.l0]
    rw [if_neg (by omega), List.drop_eq_nil_of_le (by omega)]
    congr 1
    exact (decide_eq_true (by simp only [sm]; omega)).symm
  | succ d ih =>
    intro i n hi h0 h1
    have hd := drop_rdOf l i (by omega)
    have h2 : wrap64 ((i : Int) + 1) = ((i + 1 : Nat) : Int) := by unfold wrap64; omega
    have hm : 0 ≤ mn ((rdOf ByteArray.empty l (i : Int)).size : Int) 100000 ∧ mn ((rdOf ByteArray.empty l (i : Int)).size : Int) 100000 ≤ 100000 := by unfold mn; split <;> omega
    have hp := sm_pos (l.drop (i + 1))
    have es : n + sm (rdOf ByteArray.empty l (i : Int) :: l.drop (i + 1)) = n + (mn ((rdOf ByteArray.empty l (i : Int)).size : Int) 100000 + 10) + sm (l.drop (i + 1)) := by simp only [sm]; omega
    rw [hd, es]
    have hw : wrap64 (n + (mn ((rdOf ByteArray.empty l (i : Int)).size : Int) 100000 + 10)) = n + (mn ((rdOf ByteArray.empty l (i : Int)).size : Int) 100000 + 10) := wr _ (by omega)
    by_cases c : n + (mn ((rdOf ByteArray.empty l (i : Int)).size : Int) 100000 + 10) > 50000
    · refine Ev.step (f := fun _ => some false) (fun k => ?_) ?_
      · simp only [ententelaw01_Small.l0]
        rw [if_pos (by omega), if_pos (by omega), hw, if_pos c]
      · rw [decide_eq_false (by omega)]
        exact Ev.now _
    · refine Ev.step (f := fun k => ententelaw01_Small.l0 k l (n + (mn ((rdOf ByteArray.empty l (i : Int)).size : Int) 100000 + 10)) ((i + 1 : Nat) : Int)) (fun k => ?_) (ih (i + 1) _ (by omega) (by omega) (by omega))
      simp only [ententelaw01_Small.l0]
      rw [if_pos (by omega), if_pos (by omega), hw, if_neg c, h2]
theorem small_ev (l : List ByteArray) (hl : l.length ≤ 140737488351232) : Ev (fun k => ententelaw01_Small.f k l) (decide (sm l ≤ 50000)) := by
  have := small_loop l hl l.length 0 0 (by omega) (by omega) (by omega)
  rw [List.drop_zero, Int.zero_add] at this
  exact this
theorem small_room (l : List ByteArray) (h : sm l ≤ 50000) : room l ≤ 50000 := by
  have gen : ∀ l : List ByteArray, sm l ≤ 50000 → (room l : Int) = sm l := by
    intro l
    induction l with
    | nil => intro _; simp [room, sm]
    | cons s l ih =>
      intro h
      simp only [sm] at h
      have hp := sm_pos l
      have hm : mn (s.size : Int) 100000 ≤ 50000 := by unfold mn at h ⊢; split at h <;> omega
      have he : mn (s.size : Int) 100000 = (s.size : Int) := by unfold mn at hm ⊢; split at hm <;> omega
      have := ih (by unfold mn at h; split at h <;> omega)
      simp only [room, sm]
      rw [he]
      omega
  have := gen l h
  omega
/-- A number that was taken stands there. -/
theorem tn_form (s : ByteArray) (hs : s.size ≤ 140737488351232) (a : Int) (h : (TN s a).2.2 = 0) :
    (bytesOf s).drop a.toNat = bytesOf (Nm (TN s a).1) ++ (bytesOf s).drop (TN s a).2.1.toNat ∧ (TN s a).2.1 = a + ((Nm (TN s a).1).size : Int) := by
  by_cases c : a < 0 ∨ a > (s.size : Int)
  · have : TN s a = (0, 0, 2) := if_pos c
    rw [this] at h; simp at h
  · have e : TN s a = rel a (tnS ((bytesOf s).drop a.toNat) 0 0) := if_neg c
    have h0 : (tnS ((bytesOf s).drop a.toNat) 0 0).2.2 = 0 := by rw [e] at h; exact h
    obtain ⟨m, r, h4, h5, h6, h7, h8⟩ := tnS_ok _ (fun x hx => bytesOf_byte s x (List.mem_of_mem_drop hx)) h0
    rw [h7, rel_ok] at e
    have en : numS (valS m).toNat = m := canon_val m h5
    have hd : (bytesOf s).drop (a + (m.length : Int)).toNat = r := by
      rw [show (a + (m.length : Int)).toNat = a.toNat + m.length by omega, ← List.drop_drop, h4, List.drop_left]
    rw [e]
    refine ⟨?_, ?_⟩
    · show (bytesOf s).drop a.toNat = bytesOf (Nm (valS m)) ++ (bytesOf s).drop (a + (m.length : Int)).toNat
      rw [hd, nm_bytes, en, h4]
    · show a + (m.length : Int) = a + ((Nm (valS m)).size : Int)
      rw [nm_size, en]
/-- What stands there is taken. -/
theorem tn_back (s : ByteArray) (a : Nat) (ha : a ≤ s.size) (n : Int) (hn : 0 ≤ n ∧ n < 18446744073709551616) (u : List Int) (h : (bytesOf s).drop a = bytesOf (Nm n) ++ u) :
    TN s (a : Int) = (n, (a : Int) + ((Nm n).size : Int), 0) := by
  have e : TN s (a : Int) = rel (a : Int) (tnS ((bytesOf s).drop a) 0 0) := if_neg (by omega)
  have hv := valS_numS n.toNat
  rw [nm_bytes] at h
  rw [e, h, tnS_canon _ u (canon_numS _) (by rw [hv]; omega), rel_ok, hv, nm_size, show ((n.toNat : Nat) : Int) = n by omega]
theorem tn_short (s : ByteArray) (a : Nat) (ha : a ≤ s.size) (n : Int) (hn : 0 ≤ n ∧ n < 18446744073709551616) (u : List Int) (hu : u ≠ []) (h : bytesOf (Nm n) = (bytesOf s).drop a ++ u) :
    (TN s (a : Int)).2.2 = 10 := by
  have e : TN s (a : Int) = rel (a : Int) (tnS ((bytesOf s).drop a) 0 0) := if_neg (by omega)
  rw [nm_bytes] at h
  rw [e, tnS_short _ _ (canon_numS _) (numS_ten _ (by omega)) u hu h, rel_err _ _ (by decide)]
theorem tt_form (s : ByteArray) (hs : s.size ≤ 140737488351232) (a : Int) (h : (TT s a).2.2 = 0) :
    (bytesOf s).drop a.toNat = bytesOf (Tx (TT s a).1) ++ (bytesOf s).drop (TT s a).2.1.toNat ∧ (TT s a).2.1 = a + ((Tx (TT s a).1).size : Int) := by
  unfold TT at h ⊢
  rcases tn_facts s hs a with ⟨h1, _, _⟩ | ⟨h0, h1, h2, h3, h4, h5⟩
  · rw [if_neg h1] at h; exact absurd h h1
  · rw [if_pos h0] at h ⊢
    by_cases c : (TN s a).1 > (s.size : Int) - (TN s a).2.1
    · rw [if_pos c] at h; simp at h
    · rw [if_neg c]
      obtain ⟨f1, f2⟩ := tn_form s hs a h0
      show (bytesOf s).drop a.toNat = bytesOf (Tx (s.extract (TN s a).2.1.toNat ((TN s a).2.1 + (TN s a).1).toNat)) ++ (bytesOf s).drop ((TN s a).2.1 + (TN s a).1).toNat ∧ (TN s a).2.1 + (TN s a).1 = a + ((Tx (s.extract (TN s a).2.1.toNat ((TN s a).2.1 + (TN s a).1).toNat)).size : Int)
      obtain ⟨t, ht⟩ : ∃ t, s.extract (TN s a).2.1.toNat ((TN s a).2.1 + (TN s a).1).toNat = t := ⟨_, rfl⟩
      have hb : bytesOf t = ((bytesOf s).drop (TN s a).2.1.toNat).take (TN s a).1.toNat := by
        rw [← ht, bytesOf_extract, List.drop_take]
        congr 1
        omega
      have hl : t.size = (TN s a).1.toNat := by
        rw [← size_bytesOf, hb, List.length_take, List.length_drop, size_bytesOf]; omega
      rw [ht]
      unfold Tx
      rw [hl, show (((TN s a).1.toNat : Nat) : Int) = (TN s a).1 by omega]
      refine ⟨?_, ?_⟩
      · rw [f1, bytesOf_append, hb, List.append_assoc]
        congr 1
        rw [show ((TN s a).2.1 + (TN s a).1).toNat = (TN s a).2.1.toNat + (TN s a).1.toNat by omega, ← List.drop_drop, List.take_append_drop]
      · rw [size_app, hl]
        omega
theorem tt_back (s : ByteArray) (hs : s.size ≤ 140737488351232) (a : Nat) (ha : a ≤ s.size) (t : ByteArray) (u : List Int) (h : (bytesOf s).drop a = bytesOf (Tx t) ++ u) :
    TT s (a : Int) = (t, (a : Int) + ((Tx t).size : Int), 0) := by
  have hl := congrArg List.length h
  rw [List.length_drop, bytesOf_length, List.length_append, size_bytesOf] at hl
  have hz : (Tx t).size = (Nm (t.size : Int)).size + t.size := by unfold Tx; rw [size_app]
  unfold Tx at h
  rw [bytesOf_append, List.append_assoc] at h
  have e := tn_back s a ha (t.size : Int) (by omega) _ h
  unfold TT
  rw [e]
  simp only [if_true]
  rw [if_neg (by omega)]
  have q1 : ((a : Int) + ((Nm (t.size : Int)).size : Int)).toNat = a + (Nm (t.size : Int)).size := by omega
  have q2 : ((a : Int) + ((Nm (t.size : Int)).size : Int) + (t.size : Int)).toNat = a + (Nm (t.size : Int)).size + t.size := by omega
  rw [q1, q2]
  have et : s.extract (a + (Nm (t.size : Int)).size) (a + (Nm (t.size : Int)).size + t.size) = t := by
    apply bytesOf_inj
    rw [bytesOf_extract, List.drop_take, Nat.add_sub_cancel_left, ← List.drop_drop, h]
    rw [show (Nm (t.size : Int)).size = (bytesOf (Nm (t.size : Int))).length by rw [size_bytesOf], List.drop_left]
    rw [show t.size = (bytesOf t).length by rw [size_bytesOf], List.take_left]
  rw [et, hz]
  congr 2
  omega
theorem tt_short (s : ByteArray) (hs : s.size ≤ 140737488351232) (a : Nat) (ha : a ≤ s.size) (t : ByteArray) (ht : t.size ≤ 140737488351232) (u : List Int) (hu : u ≠ []) (h : bytesOf (Tx t) = (bytesOf s).drop a ++ u) :
    (TT s (a : Int)).2.2 = 10 := by
  unfold Tx at h
  rw [bytesOf_append] at h
  unfold TT
  rcases List.append_eq_append_iff.1 h with ⟨v, h1, h2⟩ | ⟨v, h1, h2⟩
  · have e := tn_back s a ha (t.size : Int) (by omega) v h1
    have hl := congrArg List.length h1
    have hl2 := congrArg List.length h2
    have hp : 1 ≤ u.length := by
      cases u with
      | nil => exact absurd rfl hu
      | cons x u => simp
    rw [List.length_drop, bytesOf_length, List.length_append, size_bytesOf] at hl
    rw [size_bytesOf, List.length_append] at hl2
    rw [e]
    simp only [if_true]
    rw [if_pos (by omega)]
  · by_cases hv : v = []
    · rw [hv, List.append_nil] at h1
      have e := tn_back s a ha (t.size : Int) (by omega) [] (by rw [List.append_nil]; exact h1.symm)
      rw [hv, List.nil_append] at h2
      have hl := congrArg List.length h1
      have hl2 := congrArg List.length h2
      have hp : 1 ≤ u.length := by
        cases u with
        | nil => exact absurd rfl hu
        | cons x u => simp
      rw [List.length_drop, bytesOf_length, size_bytesOf] at hl
      rw [size_bytesOf] at hl2
      rw [e]
      simp only [if_true]
      rw [if_pos (by omega)]
    · have e := tn_short s a ha (t.size : Int) (by omega) v hv h1
      rw [if_neg (by omega)]
      exact e
theorem tl_err (s : ByteArray) (d : Nat) : ∀ (n a : Int) (l : List ByteArray), (TL s d n a l).2.2 ≠ 0 → (TL s d n a l).1 = [] ∧ (TL s d n a l).2.1 = 0 := by
  induction d with
  | zero => intro n a l h; exact absurd rfl h
  | succ d ih =>
    intro n a l
    rw [TL]
    split
    · split
      · exact ih _ _ _
      · intro _; exact ⟨rfl, rfl⟩
    · intro h; exact absurd rfl h
theorem tl_form (s : ByteArray) (hs : s.size ≤ 100000) (d : Nat) : ∀ (n a : Int) (l : List ByteArray), 0 ≤ n → 0 ≤ a → a ≤ (s.size : Int) → (s.size : Int) - a < (d : Int) → (TL s d n a l).2.2 = 0 →
    ∃ m : List ByteArray, (TL s d n a l).1 = l ++ m ∧ (m.length : Int) = n ∧ (bytesOf s).drop a.toNat = bytesOf (cat m) ++ (bytesOf s).drop (TL s d n a l).2.1.toNat ∧ (TL s d n a l).2.1 = a + ((cat m).size : Int) ∧ (TL s d n a l).2.1 ≤ (s.size : Int) := by
  induction d with
  | zero => intro n a l _ _ _ _; omega
  | succ d ih =>
    intro n a l h0 h1 h2 h3
    by_cases c : n > 0
    · rw [TL, if_pos c]
      rcases tt_facts s (by omega) a with h | ⟨h, g1, g2, g3⟩
      · rw [if_neg h]; intro he; exact absurd he h
      · rw [if_pos h]
        intro he
        obtain ⟨m, e1, e2, e3, e4, e5⟩ := ih (n - 1) (TT s a).2.1 (l ++ [(TT s a).1]) (by omega) (by omega) g3 (by omega) he
        obtain ⟨f1, f2⟩ := tt_form s (by omega) a h
        refine ⟨(TT s a).1 :: m, by rw [e1]; simp, by rw [List.length_cons]; omega, ?_, ?_, e5⟩
        · rw [f1, e3]; simp only [cat, bytesOf_append, List.append_assoc]
        · simp only [cat, size_app]; omega
    · rw [TL, if_neg c]
      intro _
      exact ⟨[], by simp, by simp; omega, by simp [cat, bytesOf_empty], by simp [cat], h2⟩
theorem tl_back (s : ByteArray) (hs : s.size ≤ 140737488351232) (m : List ByteArray) : ∀ (d a : Nat) (l : List ByteArray) (u : List Int), a ≤ s.size → s.size - a < d → (bytesOf s).drop a = bytesOf (cat m) ++ u →
    TL s d (m.length : Int) (a : Int) l = (l ++ m, (a : Int) + ((cat m).size : Int), 0) := by
  induction m with
  | nil =>
    intro d a l u ha hd h
    obtain ⟨d, rfl⟩ : ∃ d', d = d' + 1 := ⟨d - 1, by omega⟩
    rw [TL, if_neg (by simp)]
    simp [cat]
  | cons t m ih =>
    intro d a l u ha hd h
    obtain ⟨d, rfl⟩ : ∃ d', d = d' + 1 := ⟨d - 1, by omega⟩
    simp only [cat, bytesOf_append, List.append_assoc] at h
    have e := tt_back s hs a ha t _ h
    have hp : 1 ≤ (Tx t).size := by unfold Tx; rw [size_app, nm_size]; have := numS_pos (t.size : Int).toNat; omega
    have hl := congrArg List.length h
    rw [List.length_drop, bytesOf_length, List.length_append, size_bytesOf] at hl
    have hd2 : (bytesOf s).drop (a + (Tx t).size) = bytesOf (cat m) ++ u := by
      rw [← List.drop_drop, h, show (Tx t).size = (bytesOf (Tx t)).length by rw [size_bytesOf], List.drop_left]
    have := ih d (a + (Tx t).size) (l ++ [t]) u (by omega) (by omega) hd2
    rw [TL, if_pos (by rw [List.length_cons]; omega), e]
    simp only [if_true]
    rw [show ((t :: m).length : Int) - 1 = (m.length : Int) by rw [List.length_cons]; omega, show (a : Int) + ((Tx t).size : Int) = ((a + (Tx t).size : Nat) : Int) by omega, this]
    simp only [cat, size_app, List.append_assoc, List.singleton_append]
    congr 2
    omega
theorem cat_each (m : List ByteArray) : ∀ t ∈ m, t.size ≤ (cat m).size := by
  induction m with
  | nil => intro t h; simp at h
  | cons x m ih =>
    intro t h
    simp only [cat, size_app]
    rcases List.mem_cons.1 h with rfl | h
    · unfold Tx; rw [size_app]; omega
    · have := ih t h; omega
theorem tl_short (s : ByteArray) (hs : s.size ≤ 140737488351232) (m : List ByteArray) (hm : ∀ t ∈ m, t.size ≤ 140737488351232) : ∀ (d a : Nat) (l : List ByteArray) (u : List Int), u ≠ [] → a ≤ s.size → s.size - a < d → bytesOf (cat m) = (bytesOf s).drop a ++ u →
    (TL s d (m.length : Int) (a : Int) l).2.2 = 10 := by
  induction m with
  | nil =>
    intro d a l u hu ha hd h
    simp only [cat, bytesOf_empty] at h
    have := congrArg List.length h
    rw [List.length_append] at this
    cases u with
    | nil => exact absurd rfl hu
    | cons x u => simp at this
  | cons t m ih =>
    intro d a l u hu ha hd h
    obtain ⟨d, rfl⟩ : ∃ d', d = d' + 1 := ⟨d - 1, by omega⟩
    simp only [cat, bytesOf_append] at h
    rw [TL, if_pos (by rw [List.length_cons]; omega)]
    have go : ∀ v, (bytesOf s).drop a = bytesOf (Tx t) ++ v → bytesOf (cat m) = v ++ u → (if (TT s (a : Int)).2.2 = 0 then TL s d (((t :: m).length : Int) - 1) (TT s (a : Int)).2.1 (l ++ [(TT s (a : Int)).1]) else ([], 0, (TT s (a : Int)).2.2)).2.2 = 10 := by
      intro v h1 h2
      have e := tt_back s hs a ha t v h1
      have hp : 1 ≤ (Tx t).size := by unfold Tx; rw [size_app, nm_size]; have := numS_pos (t.size : Int).toNat; omega
      have hl := congrArg List.length h1
      rw [List.length_drop, bytesOf_length, List.length_append, size_bytesOf] at hl
      have hd2 : (bytesOf s).drop (a + (Tx t).size) = v := by
        rw [← List.drop_drop, h1, show (Tx t).size = (bytesOf (Tx t)).length by rw [size_bytesOf], List.drop_left]
      have := ih (fun x hx => hm x (List.mem_cons_of_mem _ hx)) d (a + (Tx t).size) (l ++ [t]) u hu (by omega) (by omega) (by rw [hd2]; exact h2)
      rw [e]
      simp only [if_true]
      rw [show ((t :: m).length : Int) - 1 = (m.length : Int) by rw [List.length_cons]; omega, show (a : Int) + ((Tx t).size : Int) = ((a + (Tx t).size : Nat) : Int) by omega]
      exact this
    rcases List.append_eq_append_iff.1 h with ⟨v, h1, h2⟩ | ⟨v, h1, h2⟩
    · exact go v h1 h2
    · by_cases hv : v = []
      · rw [hv, List.append_nil] at h1
        rw [hv, List.nil_append] at h2
        exact go [] (by rw [List.append_nil]; exact h1.symm) (by rw [List.nil_append]; exact h2.symm)
      · have e := tt_short s hs a ha t (hm t (List.mem_cons_self ..)) v hv h1
        rw [if_neg (by omega)]
        exact e
theorem tls_back (s : ByteArray) (hs : s.size ≤ 140737488351232) (m : List ByteArray) (hm : m.length ≤ 140737488351232) (a : Nat) (ha : a ≤ s.size) (u : List Int) (h : (bytesOf s).drop a = bytesOf (Txs m) ++ u) :
    TLs s (a : Int) = (m, (a : Int) + ((Txs m).size : Int), 0) := by
  unfold Txs at h
  rw [bytesOf_append, List.append_assoc] at h
  have e := tn_back s a ha (m.length : Int) (by omega) _ h
  have hl := congrArg List.length h
  rw [List.length_drop, bytesOf_length, List.length_append, size_bytesOf] at hl
  have hd2 : (bytesOf s).drop (a + (Nm (m.length : Int)).size) = bytesOf (cat m) ++ u := by
    rw [← List.drop_drop, h, show (Nm (m.length : Int)).size = (bytesOf (Nm (m.length : Int))).length by rw [size_bytesOf], List.drop_left]
  have hp : 1 ≤ (Nm (m.length : Int)).size := by rw [nm_size]; exact numS_pos _
  have := tl_back s hs m (s.size + 1) (a + (Nm (m.length : Int)).size) [] u (by omega) (by omega) hd2
  unfold TLs
  rw [e]
  simp only [if_true]
  rw [show (a : Int) + ((Nm (m.length : Int)).size : Int) = ((a + (Nm (m.length : Int)).size : Nat) : Int) by omega, this]
  unfold Txs
  rw [size_app, List.nil_append]
  congr 2
  omega
theorem tls_short (s : ByteArray) (hs : s.size ≤ 140737488351232) (m : List ByteArray) (hl : m.length ≤ 140737488351232) (hm : ∀ t ∈ m, t.size ≤ 140737488351232) (u : List Int) (hu : u ≠ []) (h : bytesOf (Txs m) = bytesOf s ++ u) :
    (TLs s 0).2.2 = 10 := by
  unfold Txs at h
  rw [bytesOf_append] at h
  unfold TLs
  have go : ∀ v, bytesOf s = bytesOf (Nm (m.length : Int)) ++ v → bytesOf (cat m) = v ++ u → (if (TN s 0).2.2 = 0 then TL s (s.size + 1) (TN s 0).1 (TN s 0).2.1 [] else ([], 0, (TN s 0).2.2)).2.2 = 10 := by
    intro v h1 h2
    have e := tn_back s 0 (by omega) (m.length : Int) (by omega) v (by rw [List.drop_zero]; exact h1)
    have hl2 := congrArg List.length h1
    rw [bytesOf_length, List.length_append, size_bytesOf] at hl2
    have hd2 : (bytesOf s).drop (Nm (m.length : Int)).size = v := by
      rw [h1, show (Nm (m.length : Int)).size = (bytesOf (Nm (m.length : Int))).length by rw [size_bytesOf], List.drop_left]
    have := tl_short s hs m hm (s.size + 1) (Nm (m.length : Int)).size [] u hu (by omega) (by omega) (by rw [hd2]; exact h2)
    rw [show ((0 : Nat) : Int) = 0 from rfl] at e
    rw [e]
    simp only [if_true]
    rw [show (0 : Int) + ((Nm (m.length : Int)).size : Int) = ((Nm (m.length : Int)).size : Int) by omega]
    exact this
  rcases List.append_eq_append_iff.1 h with ⟨v, h1, h2⟩ | ⟨v, h1, h2⟩
  · exact go v h1 h2
  · by_cases hv : v = []
    · rw [hv, List.append_nil] at h1
      rw [hv, List.nil_append] at h2
      exact go [] (by rw [List.append_nil]; exact h1.symm) (by rw [List.nil_append]; exact h2.symm)
    · have e := tn_short s 0 (by omega) (m.length : Int) (by omega) v hv (by rw [List.drop_zero]; exact h1)
      rw [show ((0 : Nat) : Int) = 0 from rfl] at e
      rw [if_neg (by omega)]
      exact e
theorem tls_form (s : ByteArray) (hs : s.size ≤ 100000) (h : (TLs s 0).2.2 = 0) :
    bytesOf s = bytesOf (Txs (TLs s 0).1) ++ (bytesOf s).drop (TLs s 0).2.1.toNat ∧ (TLs s 0).2.1 = ((Txs (TLs s 0).1).size : Int) ∧ (TLs s 0).2.1 ≤ (s.size : Int) ∧ (TN s 0).2.2 = 0 ∧ (TN s 0).1 = ((TLs s 0).1.length : Int) := by
  unfold TLs at h ⊢
  rcases tn_facts s (by omega) 0 with ⟨h1, _, _⟩ | ⟨h0, h1, h2, h3, h4, h5⟩
  · rw [if_neg h1] at h; exact absurd h h1
  · rw [if_pos h0] at h ⊢
    obtain ⟨f1, f2⟩ := tn_form s (by omega) 0 h0
    obtain ⟨m, e1, e2, e3, e4, e5⟩ := tl_form s hs (s.size + 1) (TN s 0).1 (TN s 0).2.1 [] h1 (by omega) h5 (by omega) h
    rw [List.nil_append] at e1
    rw [e1]
    refine ⟨?_, ?_, e5, h0, e2.symm⟩
    · unfold Txs
      rw [bytesOf_append, e2, List.append_assoc, ← e3, ← f1]; rfl
    · unfold Txs
      rw [size_app, e2]; omega
theorem same_loop (l : List ByteArray) (hl : l.length ≤ 1000000) (d : Nat) : ∀ (i : Nat), i + d = l.length → Ev (fun k => ententeref01_Same.l0 k l l (i : Int)) true := by
  induction d with
  | zero =>
    intro i hi
    refine Ev.step (f := fun _ => some true) (fun k => ?_) (Ev.now _)
    rw [ententeref01_Same.l0, if_neg (by omega)]
  | succ d ih =>
    intro i hi
    refine Ev.step (fun k => ?_) (ih (i + 1) (by omega))
    rw [ententeref01_Same.l0, if_pos (by omega), if_pos (by omega), if_pos (by omega), if_pos rfl, wr ((i : Int) + 1) (by omega)]
    rfl
theorem same_ev (l : List ByteArray) (hl : l.length ≤ 1000000) : Ev (fun k => ententeref01_Same.f k l l) true := by
  refine Ev.congr (fun k => ?_) (same_loop l hl l.length 0 (by omega))
  unfold ententeref01_Same.f
  exact if_pos rfl
theorem tl_len (s : ByteArray) (d : Nat) : ∀ (n a : Int) (l : List ByteArray), (TL s d n a l).1.length ≤ l.length + d := by
  induction d with
  | zero => intro n a l; simp [TL]
  | succ d ih =>
    intro n a l
    rw [TL]
    split
    · split
      · have := ih (n - 1) (TT s a).2.1 (l ++ [(TT s a).1])
        rw [List.length_append, List.length_singleton] at this
        omega
      · simp
    · simp
theorem tls_len (s : ByteArray) (a : Int) : (TLs s a).1.length ≤ s.size + 1 := by
  unfold TLs
  split
  · have := tl_len s (s.size + 1) (TN s a).1 (TN s a).2.1 []
    simpa using this
  · simp
theorem sg_back (n : Int) : sg (if 0 ≤ n then 2 * n else -2 * n - 1) = n := by
  unfold sg
  split <;> split <;> omega
theorem uw_range (n : Int) : 0 ≤ IntKind.u64.wrap n ∧ IntKind.u64.wrap n < 18446744073709551616 := by rw [uw_eq]; omega
theorem zz_range (n : Int) (h : -9223372036854775808 ≤ n ∧ n ≤ 9223372036854775807) : 0 ≤ (if 0 ≤ n then 2 * n else -2 * n - 1) ∧ (if 0 ≤ n then 2 * n else -2 * n - 1) < 18446744073709551616 := by split <;> omega
theorem drop_here (l p r : List Int) (a : Nat) (h : l = p ++ r) (e : a = p.length) : l.drop a = r := by rw [h, e, List.drop_left]
theorem wn2 (m : Nat) (h : m ≤ 1000000) : wrap64 (m : Int) = (m : Int) := wr _ (by omega)
theorem wn3 (m k : Nat) (h : m ≤ 1000000) (h2 : k ≤ 1000000) : wrap64 ((m : Int) + (k : Int)) = (m : Int) + (k : Int) := wr _ (by omega)
set_option maxHeartbeats 4000000 in
theorem PackBack : ententelaw01_PackBack.Pure := by
  intro n l a b wn ⟨_, hb, hs⟩ ha hb2
  have hn : -9223372036854775808 ≤ n ∧ n ≤ 9223372036854775807 := by
    simp [Lit.wf, IntKind.min, IntKind.max, IntKind.signed, IntKind.bits] at wn; omega
  refine Ev.rounds (g := fun k => ententelaw01_PackBack.f k n l a b) ?_
  unfold ententelaw01_PackBack.f
  have bad : Ev (fun k => ententelaw01_PackBack.j0 k n l true a b) true := Ev.step (f := fun k => (ententelaw01_awake.f k).bind fun t => some t) (fun k => by rw [ententelaw01_PackBack.j0, if_pos rfl]) (Ev.bind awake_ev (Ev.now true))
  refine Ev.bind (small_ev l (by omega)) ?_
  by_cases c : sm l ≤ 50000
  case neg =>
    rw [decide_eq_false c]
    exact Ev.congr (fun k => if_neg (by simp)) bad
  rw [decide_eq_true c]
  refine Ev.congr (fun k => if_pos rfl) ?_
  by_cases c1 : (a.size : Int) > 10000
  · exact Ev.congr (fun k => if_pos c1) bad
  refine Ev.congr (fun k => if_neg c1) ?_
  by_cases c2 : (b.size : Int) > 10000
  · rw [decide_eq_true c2]; exact bad
  rw [decide_eq_false c2]
  have hr := small_room l c
  have hlen := room_len l
  have g1 := signed_ev n hn
  have z1 := sg_back n
  have zb := zz_range n hn
  have ub := uw_range n
  obtain ⟨z, hz⟩ : ∃ z, (if 0 ≤ n then 2 * n else -2 * n - 1) = z := ⟨_, rfl⟩
  rw [hz] at g1 z1 zb
  obtain ⟨u, eu⟩ : ∃ u, IntKind.u64.wrap n = u := ⟨_, rfl⟩
  rw [eu] at ub
  clear hz wn hn hs ha hb2
  have sA := nm_ten z zb
  have sB := nm_ten (u) ub
  have sN := nm_ten (l.length : Int) (by omega)
  have sT : (Txs l).size ≤ 50010 := by
    have := cat_size l (by omega)
    unfold Txs; rw [size_app]; omega
  have b1 : a.size + (Nm z).size ≤ 1000000 := by omega
  have b2 : a.size + (Nm z).size + (Nm u).size ≤ 1000000 := by omega
  have b3 : (Txs l).size ≤ 1000000 := by omega
  have g2 := number_ev (u) ub
  have g3 := texts_ev l (by omega)
  obtain ⟨s, es⟩ : ∃ s, a ++ Nm z ++ Nm (u) ++ Txs l ++ b = s := ⟨_, rfl⟩
  have ss : s.size = a.size + (Nm z).size + (Nm (u)).size + (Txs l).size + b.size := by rw [← es]; simp only [size_app]
  have sb : bytesOf s = bytesOf a ++ (bytesOf (Nm z) ++ (bytesOf (Nm (u)) ++ (bytesOf (Txs l) ++ bytesOf b))) := by rw [← es]; simp only [bytesOf_append, List.append_assoc]
  have d1 : (bytesOf s).drop a.size = bytesOf (Nm z) ++ (bytesOf (Nm (u)) ++ (bytesOf (Txs l) ++ bytesOf b)) := drop_here _ _ _ _ sb (size_bytesOf a).symm
  have d2 : (bytesOf s).drop (a.size + (Nm z).size) = bytesOf (Nm (u)) ++ (bytesOf (Txs l) ++ bytesOf b) := by
    rw [← List.drop_drop]; exact drop_here _ _ _ _ d1 (size_bytesOf _).symm
  have d3 : (bytesOf s).drop (a.size + (Nm z).size + (Nm (u)).size) = bytesOf (Txs l) ++ bytesOf b := by
    rw [← List.drop_drop]; exact drop_here _ _ _ _ d2 (size_bytesOf _).symm
  have e1 := tn_back s a.size (by omega) z zb _ d1
  have e2 := tn_back s (a.size + (Nm z).size) (by omega) (u) ub _ d2
  have e3 := tls_back s (by omega) l (by omega) (a.size + (Nm z).size + (Nm (u)).size) (by omega) _ d3
  have f1 := takesigned_ev s (by omega) (a.size : Int)
  rw [e1] at f1
  simp only [z1] at f1
  have f2 := take_ev s (by omega) ((a.size : Int) + ((Nm z).size : Int))
  rw [show (a.size : Int) + ((Nm z).size : Int) = ((a.size + (Nm z).size : Nat) : Int) by omega, e2] at f2
  have f3 := list_ev s (by omega) (((a.size + (Nm z).size : Nat) : Int) + ((Nm (u)).size : Int))
  rw [show ((a.size + (Nm z).size : Nat) : Int) + ((Nm (u)).size : Int) = ((a.size + (Nm z).size + (Nm (u)).size : Nat) : Int) by omega, e3] at f3
  refine Ev.step (fun k => Eq.trans (ententelaw01_PackBack.j0.eq_2 ..) (if_neg Bool.false_ne_true)) ?_
  rw [eu]
  refine Ev.bind g1 (Ev.bind g2 (Ev.bind g3 ?_))
  refine Ev.congr (fun k => (if_pos (by omega)).trans ((if_pos (by simp only [size_app]; omega)).trans ((if_pos (by simp only [size_app]; omega)).trans (if_pos (by simp only [size_app]; omega))))) ?_
  rw [es]
  refine Ev.bind f1 ?_
  simp only
  rw [show (a.size : Int) + ((Nm z).size : Int) = ((a.size + (Nm z).size : Nat) : Int) by omega]
  refine Ev.bind f2 ?_
  simp only
  rw [show ((a.size + (Nm z).size : Nat) : Int) + ((Nm (u)).size : Int) = ((a.size + (Nm z).size + (Nm (u)).size : Nat) : Int) by omega]
  refine Ev.bind f3 ?_
  refine Ev.congr (f := fun k => (ententeref01_Same.f k l l).bind fun t152 => (if t152 = true then ((ententelaw01_awake.f k).bind fun t153 => (some t153)) else (some false))) (fun k => ?_) ?_
  · have w1 : wrap64 ((a.size + (Nm z).size : Nat) : Int) = ((a.size + (Nm z).size : Nat) : Int) := wn2 _ b1
    have w2 : wrap64 ((a.size + (Nm z).size + (Nm u).size : Nat) : Int) = ((a.size + (Nm z).size + (Nm u).size : Nat) : Int) := wn2 _ b2
    have w3 : wrap64 (((a.size + (Nm z).size + (Nm u).size : Nat) : Int) + ((Txs l).size : Int)) = ((a.size + (Nm z).size + (Nm u).size : Nat) : Int) + ((Txs l).size : Int) := wn3 _ _ b2 b3
    simp only [w1, w2, w3, if_true]
  · exact Ev.bind (same_ev l (by omega)) (Ev.congr (fun k => if_pos rfl) (Ev.bind awake_ev (Ev.now true)))

end Go.Proofs.Ytfhffabnllicdaa.Pure
