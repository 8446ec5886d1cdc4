/- PackLists: proved for all arguments; no condition. -/
import Derived.Test.YtfhffabnllicdaaNum
import Derived.Test.YtfhffabnllicdaaPBx4
namespace Go.Proofs.Ytfhffabnllicdaa.Pure
open Go.RowKit Go.Proofs.Ytfhffabnllicdaa.PB Go.Proofs.YtfhffabnllicdaaW.PrintWords Go.Proofs.YtfhffabnllicdaaW.PrintLast Go.Proofs.YtfhffabnllicdaaW.PrintMore Go.Proofs.Ytfhffabnllicdaa.Num
set_option linter.unusedVariables false
set_option linter.unusedSimpArgs false

/-- A number's form. -/
def Nm (n : Int) : ByteArray := strOfNums (numS n.toNat)
theorem nm_bytes (n : Int) : bytesOf (Nm n) = numS n.toNat := bytesOf_nums _ (numS_byte _)
theorem nm_size (n : Int) : (Nm n).size = (numS n.toNat).length := by rw [← size_bytesOf, nm_bytes]
theorem nm_ten (n : Int) (h : 0 ≤ n ∧ n < 18446744073709551616) : 1 ≤ (Nm n).size ∧ (Nm n).size ≤ 10 := by
  rw [nm_size]
  exact ⟨numS_pos _, numS_ten _ (by omega)⟩
theorem number_loop (n : Nat) : ∀ acc : List Int, acc.length + (numS n).length ≤ 1000 → Ev (fun k => pack_Number.l0 k (n : Int) acc) (strOfNums (acc ++ numS n)) := by
  induction n using Nat.strongRecOn with
  | _ n ih =>
    intro acc hl
    have hp := numS_pos n
    by_cases h : n < 128
    · refine Ev.step (f := fun _ => some (strOfNums (acc ++ numS n))) (fun k => ?_) (Ev.now _)
      simp only [pack_Number.l0]
      rw [if_neg (by omega), if_pos (by omega), numS_small h]
      congr 4
      omega
    · have e := numS_big h
      rw [e, List.length_cons] at hl
      have := ih (n / 128) (by omega) (acc ++ [((n % 128 + 128 : Nat) : Int)]) (by rw [List.length_append, List.length_singleton]; omega)
      rw [e]
      rw [List.append_assoc, List.singleton_append] at this
      refine Ev.step (fun k => ?_) this
      simp only [pack_Number.l0]
      rw [if_pos (by omega), if_pos (by omega), or128 _ (by omega)]
      have q1 : (n : Int) / 128 = ((n / 128 : Nat) : Int) := by omega
      have q2 : (n : Int) % 256 % 128 + 128 = ((n % 128 + 128 : Nat) : Int) := by omega
      rw [q1, q2]
theorem number_ev (n : Int) (h : 0 ≤ n ∧ n < 18446744073709551616) : Ev (fun k => pack_Number.f k n) (Nm n) := by
  obtain ⟨m, rfl⟩ := Int.eq_ofNat_of_zero_le h.1
  have := number_loop m [] (by have := numS_ten m (by omega); simp; omega)
  rw [List.nil_append] at this
  exact this
/-- A text's form. -/
def Tx (s : ByteArray) : ByteArray := Nm (s.size : Int) ++ s
theorem size_app (s t : ByteArray) : (s ++ t).size = s.size + t.size := by
  rw [← size_bytesOf, bytesOf_append, List.length_append, size_bytesOf, size_bytesOf]
theorem tx_size (s : ByteArray) (h : s.size ≤ 140737488351232) : (Tx s).size ≤ s.size + 10 := by
  unfold Tx
  have := (nm_ten (s.size : Int) (by omega)).2
  rw [size_app]; omega
theorem text_ev (s : ByteArray) (h : s.size ≤ 140737488351232) : Ev (fun k => pack_Text.f k s) (Tx s) := by
  have hn := nm_ten (s.size : Int) (by omega)
  have hu := uw (s.size : Int) (by omega)
  unfold pack_Text.f
  rw [hu]
  refine Ev.bind (number_ev (s.size : Int) (by omega)) ?_
  refine Ev.congr (f := fun _ => some (Tx s)) (fun k => ?_) (Ev.now _)
  rw [if_pos (by omega)]
  rfl
/-- Texts, one behind the other, laid. -/
def cat : List ByteArray → ByteArray
  | [] => ByteArray.empty
  | s :: l => Tx s ++ cat l
def Txs (l : List ByteArray) : ByteArray := Nm (l.length : Int) ++ cat l
/-- How long texts are, each with ten bytes more. -/
def room : List ByteArray → Nat
  | [] => 0
  | s :: l => s.size + 10 + room l
theorem cat_size (l : List ByteArray) (h : room l ≤ 140737488351232) : (cat l).size ≤ room l := by
  induction l with
  | nil => simp [cat, room]
  | cons s l ih =>
    simp only [room] at h ⊢
    simp only [cat]
    have := tx_size s (by omega)
    have := ih (by omega)
    rw [size_app]; omega
theorem drop_rdOf (l : List ByteArray) (i : Nat) (h : i < l.length) : l.drop i = rdOf ByteArray.empty l (i : Int) :: l.drop (i + 1) := by
  rw [List.drop_eq_getElem_cons h]
  congr 1
  unfold rdOf
  simp [List.getD_eq_getElem?_getD, List.getElem?_eq_getElem h]
theorem app_assoc (a b c : ByteArray) : a ++ b ++ c = a ++ (b ++ c) := bytesOf_inj (by simp only [bytesOf_append, List.append_assoc])
theorem app_empty (a : ByteArray) : a ++ ByteArray.empty = a := bytesOf_inj (by simp only [bytesOf_append, bytesOf_empty, List.append_nil])
theorem texts_loop (l : List ByteArray) (hr : room l ≤ 100000000) (d : Nat) : ∀ (i : Nat) (acc : ByteArray), i + d = l.length → acc.size + room (l.drop i) ≤ 200000000 →
    Ev (fun k => pack_Texts.l0 k l (i : Int) acc) (acc ++ cat (l.drop i)) := by
  induction d with
  | zero =>
    intro i acc hi hb
    refine Ev.step (f := fun _ => some (acc ++ cat (l.drop i))) (fun k => ?_) (Ev.now _)
    simp only [pack_Texts.l0]
    rw [if_neg (by omega), List.drop_eq_nil_of_le (by omega)]
    simp only [cat, app_empty]
  | succ d ih =>
    intro i acc hi hb
    have hd := drop_rdOf l i (by omega)
    have hlen : l.length ≤ room l := by
      clear ih hi hb hd hr
      induction l with
      | nil => simp [room]
      | cons s l ih => simp only [room, List.length_cons]; omega
    rw [hd] at hb ⊢
    simp only [room] at hb
    simp only [cat]
    have ht := tx_size (rdOf ByteArray.empty l (i : Int)) (by omega)
    have h1 : wrap64 ((i : Int) + 1) = ((i + 1 : Nat) : Int) := by unfold wrap64; omega
    have := ih (i + 1) (acc ++ Tx (rdOf ByteArray.empty l (i : Int))) (by omega) (by rw [size_app]; omega)
    rw [app_assoc] at this
    refine Ev.step (f := fun k => (pack_Text.f k (rdOf ByteArray.empty l (i : Int))).bind fun t => (if acc.size + t.size ≤ 140737488355328 then (pack_Texts.l0 k l (wrap64 ((i : Int) + 1)) (acc ++ t)) else none)) (fun k => ?_) ?_
    · simp only [pack_Texts.l0]
      rw [if_pos (by omega), if_pos (by omega)]
    · refine Ev.bind (text_ev _ (by omega)) ?_
      rw [h1]
      exact Ev.congr (fun k => if_pos (by omega)) this
theorem room_len (l : List ByteArray) : 10 * l.length ≤ room l := by
  induction l with
  | nil => simp [room]
  | cons s l ih => simp only [room, List.length_cons]; omega
theorem texts_ev (l : List ByteArray) (hr : room l ≤ 100000000) : Ev (fun k => pack_Texts.f k l) (Txs l) := by
  have hl := room_len l
  have hn := nm_ten (l.length : Int) (by omega)
  have hu := uw (l.length : Int) (by omega)
  unfold pack_Texts.f
  rw [hu]
  refine Ev.bind (number_ev (l.length : Int) (by omega)) ?_
  have := texts_loop l hr l.length 0 (Nm (l.length : Int)) (by omega) (by rw [List.drop_zero]; omega)
  rw [List.drop_zero] at this
  exact Ev.congr (fun k => if_pos (by omega)) this
theorem awake_ev : Ev (fun k => ententelaw01_awake.f k) true := by
  obtain ⟨K1, h1⟩ := Ev.of (fun k => pack_TakeNumber.mono (⟨#[172, 2]⟩ : ByteArray) 0 k) (k := 20) (r := (300, 2, 0)) (by decide +kernel)
  obtain ⟨K2, h2⟩ := Ev.of (fun k => pack_TakeSigned.mono (⟨#[1]⟩ : ByteArray) 0 k) (k := 20) (r := (-1, 1, 0)) (by decide +kernel)
  obtain ⟨K3, h3⟩ := Ev.of (fun k => pack_TakeNumber.mono (⟨#[128, 0]⟩ : ByteArray) 0 k) (k := 20) (r := (0, 0, 11)) (by decide +kernel)
  obtain ⟨K4, h4⟩ := number_ev 300 (by omega)
  obtain ⟨K5, h5⟩ := texts_ev [(⟨#[97]⟩ : ByteArray), (⟨#[]⟩ : ByteArray)] (by simp [room, ByteArray.size])
  refine ⟨K1 + K2 + K3 + K4 + K5, fun k hk => ?_⟩
  show ententelaw01_awake.f k = some true
  have g1 := h1 k (by omega)
  have g2 := h2 k (by omega)
  have g3 := h3 k (by omega)
  have g4 := h4 k (by omega)
  have g5 := h5 k (by omega)
  simp only [] at g1 g2 g3 g4 g5
  unfold ententelaw01_awake.f
  rw [g1, g2, g3, g4, g5]
  have n300 : numS 300 = [172, 2] := by rw [numS_big (by decide), numS_small (by decide)]; rfl
  have n1 : numS 1 = [1] := numS_small (by decide)
  have n2 : numS 2 = [2] := numS_small (by decide)
  have n0 : numS 0 = [0] := numS_small (by decide)
  have e1 : (Nm 300).toList = [172, 2] := by
    rw [Lib.toList_data]; unfold Nm
    rw [show (300 : Int).toNat = 300 from rfl, n300]; rfl
  have e2 : (Txs [(⟨#[97]⟩ : ByteArray), (⟨#[]⟩ : ByteArray)]).toList = [2, 1, 97, 0] := by
    have : Txs [(⟨#[97]⟩ : ByteArray), (⟨#[]⟩ : ByteArray)] = ⟨#[2, 1, 97, 0]⟩ := by
      apply bytesOf_inj
      unfold Txs
      simp only [cat, Tx, bytesOf_append, nm_bytes, List.length_cons, List.length_nil, bytesOf_empty]
      rw [show ((0 + 1 + 1 : Nat) : Int).toNat = 2 from rfl, show (((⟨#[97]⟩ : ByteArray).size : Nat) : Int).toNat = 1 from rfl, show (((⟨#[]⟩ : ByteArray).size : Nat) : Int).toNat = 0 from rfl, n1, n2, n0]
      rfl
    rw [this, Lib.toList_data]
  simp only [Option.bind_some, e1, e2, if_true]
  rfl
theorem rnumber_nat (n : Nat) : n < 18446744073709551616 → Ev (fun k => ententeref01_Number.f k (n : Int)) (strOfNums (numS n)) := by
  induction n using Nat.strongRecOn with
  | _ n ih =>
    intro hn
    by_cases h : n < 128
    · refine Ev.step (f := fun _ => some (strOfNums (numS n))) (fun k => ?_) (Ev.now _)
      simp only [ententeref01_Number.f]
      rw [if_pos (by omega), numS_small h]
      congr 3
      omega
    · have e := numS_big h
      have t1 : Int.tmod (n : Int) 128 = ((n % 128 : Nat) : Int) := by rw [Int.tmod_eq_emod_of_nonneg (by omega)]; omega
      have t2 : Int.tdiv (n : Int) 128 = ((n / 128 : Nat) : Int) := by rw [Int.tdiv_eq_ediv_of_nonneg (by omega)]; omega
      have u1 := uw (((n % 128 : Nat) : Int) + 128) (by omega)
      have u2 := uw (((n / 128 : Nat) : Int)) (by omega)
      have hl := numS_ten (n / 128) (by omega)
      refine Ev.step (f := fun k => (ententeref01_Number.f k ((n / 128 : Nat) : Int)).bind fun t => (if (strOfNums [((n % 128 : Nat) : Int) + 128]).size + t.size ≤ 9223372036854775807 then (some ((strOfNums [((n % 128 : Nat) : Int) + 128]) ++ t)) else (none))) (fun k => ?_) ?_
      · simp only [ententeref01_Number.f]
        rw [if_neg (by omega), t1, t2, u1, u2]
        simp only [Option.bind_some]
        rw [show (((n % 128 : Nat) : Int) + 128) % 256 = ((n % 128 : Nat) : Int) + 128 by omega]
      · refine Ev.bind (ih (n / 128) (by omega) (by omega)) ?_
        refine Ev.congr (f := fun _ => some (strOfNums (numS n))) (fun k => ?_) (Ev.now _)
        rw [if_pos (by rw [strOfNums_size, strOfNums_size]; simp; omega), e, ← Num.nums_append]
        rfl
theorem rnumber_ev (n : Int) (h : 0 ≤ n ∧ n < 18446744073709551616) : Ev (fun k => ententeref01_Number.f k n) (Nm n) := by
  obtain ⟨m, rfl⟩ := Int.eq_ofNat_of_zero_le h.1
  exact rnumber_nat m (by omega)
/-- What is taken at a place: the number, the place behind, the error. -/
def TN (s : ByteArray) (at_ : Int) : Int × Int × Int :=
  if at_ < 0 ∨ at_ > (s.size : Int) then (0, 0, 2) else
    ((tnS ((bytesOf s).drop at_.toNat) 0 0).1, (if (tnS ((bytesOf s).drop at_.toNat) 0 0).2.2 = 0 then at_ + (tnS ((bytesOf s).drop at_.toNat) 0 0).2.1 else 0), (tnS ((bytesOf s).drop at_.toNat) 0 0).2.2)
def rel (a : Int) (r : Int × Int × Int) : Int × Int × Int := (r.1, (if r.2.2 = 0 then a + r.2.1 else 0), r.2.2)
theorem rel_err (a e : Int) (h : e ≠ 0) : rel a (0, 0, e) = (0, 0, e) := by unfold rel; rw [if_neg h]
theorem rel_ok (a n c : Int) : rel a (n, c, 0) = (n, a + c, 0) := by unfold rel; rw [if_pos rfl]
theorem tnS_nil (i : Nat) (n : Int) : tnS [] i n = if i < 10 then (0, 0, 10) else (0, 0, 11) := rfl
theorem tnS_cons (c : Int) (l : List Int) (i : Nat) (n : Int) : tnS (c :: l) i n = if 10 ≤ i then (0, 0, 11) else if i = 9 ∧ c > 1 then (0, 0, 11) else if c ≥ 128 then tnS l (i + 1) (n + c % 128 * 128 ^ i) else if c = 0 ∧ i > 0 then (0, 0, 11) else (n + c * 128 ^ i, i + 1, 0) := rfl
theorem pow7 (i : Nat) : (2 : Int) ^ (7 * i) = 128 ^ i := by rw [Int.pow_mul]; rfl
theorem pow7n (i : Nat) : (2 : Nat) ^ (7 * i) = 128 ^ i := by rw [Nat.pow_mul]
theorem pow_le (i : Nat) (h : i ≤ 9) : (128 : Nat) ^ i ≤ 9223372036854775808 := by
  have := Nat.pow_le_pow_right (show 0 < 128 by decide) h
  have e : (128 : Nat) ^ 9 = 9223372036854775808 := by decide
  omega
/-- Seven bits more. -/
theorem or_more (n c : Int) (i : Nat) (hi : i ≤ 9) (hn : 0 ≤ n ∧ n < 128 ^ i) (hc : 0 ≤ c ∧ c < 256) (h9 : i = 9 → c ≤ 1) :
    Go.bits .or .u64 n (shl .u64 (IntKind.u64.wrap (Go.bits .and .u8 c 127)) (IntKind.u64.wrap (wrap64 (7 * (i : Int))))) = n + c % 128 * 128 ^ i := by
  rw [and127 c hc, uw (c % 128) (by omega), wr (7 * (i : Int)) (by omega), uw (7 * (i : Int)) (by omega)]
  unfold shl
  have e1 : min (7 * (i : Int)).toNat IntKind.u64.bits = 7 * i := by simp [IntKind.bits]; omega
  rw [e1, pow7]
  obtain ⟨m, rfl⟩ := Int.eq_ofNat_of_zero_le hn.1
  obtain ⟨d, hd⟩ := Int.eq_ofNat_of_zero_le (show 0 ≤ c % 128 by omega)
  rw [hd]
  have hp := pow_le i hi
  have hm : m < 128 ^ i := by
    have := hn.2
    have q : ((128 ^ i : Nat) : Int) = (128 : Int) ^ i := by simp
    omega
  have hq : ((d * 128 ^ i : Nat) : Int) = (d : Int) * 128 ^ i := by simp
  have hy : d * 128 ^ i < 18446744073709551616 := by
    by_cases h : i = 9
    · have := h9 h
      have hd1 : d ≤ 1 := by omega
      have : d * 128 ^ i ≤ 1 * 128 ^ i := Nat.mul_le_mul_right _ hd1
      omega
    · have h8 : (128 : Nat) ^ i ≤ 128 ^ 8 := Nat.pow_le_pow_right (by decide) (by omega)
      have e8 : (128 : Nat) ^ 8 = 72057594037927936 := by decide
      have : d * 128 ^ i ≤ 127 * 72057594037927936 := Nat.mul_le_mul (by omega) (by omega)
      omega
  rw [← hq, uw _ (by omega)]
  exact or_join m (d * 128 ^ i) (7 * i) (by rw [pow7n]; exact hm) (by rw [pow7n]; exact Nat.mul_mod_left _ _) (by omega) (by omega)
theorem rd_drop_bt (s : ByteArray) (a : Nat) (h : a < s.size) : (bytesOf s).drop a = bt s (a : Int) :: (bytesOf s).drop (a + 1) := by
  rw [drop_cons _ a (by rw [bytesOf_length]; exact h), rd_bytesOf]
theorem take_loop (s : ByteArray) (hs : s.size ≤ 140737488351232) (a d : Nat) : ∀ (i : Nat) (n : Int), i + d = 10 → a + i ≤ s.size → 0 ≤ n → n < 128 ^ i →
    Ev (fun k => pack_TakeNumber.l0 k s (a : Int) n (i : Int)) (rel (a : Int) (tnS ((bytesOf s).drop (a + i)) i n)) := by
  induction d with
  | zero =>
    intro i n hi ha h0 h1
    refine Ev.step (f := fun _ => some (0, 0, 11)) (fun k => ?_) ?_
    · simp only [pack_TakeNumber.l0]
      rw [if_neg (by omega)]
    · have : rel (a : Int) (tnS ((bytesOf s).drop (a + i)) i n) = (0, 0, 11) := by
        cases (bytesOf s).drop (a + i) with
        | nil => rw [tnS_nil, if_neg (by omega), rel_err _ _ (by decide)]
        | cons c l => rw [tnS_cons, if_pos (by omega), rel_err _ _ (by decide)]
      rw [this]
      exact Ev.now _
  | succ d ih =>
    intro i n hi ha h0 h1
    have w1 : wrap64 ((a : Int) + (i : Int)) = ((a + i : Nat) : Int) := by unfold wrap64; omega
    have w2 : wrap64 ((i : Int) + 1) = ((i + 1 : Nat) : Int) := by unfold wrap64; omega
    have hz : IntKind.u64.wrap (wrap64 (7 * (i : Int))) = 7 * (i : Int) := by rw [wr _ (by omega), uw _ (by omega)]
    by_cases c0 : a + i = s.size
    · refine Ev.step (f := fun _ => some (0, 0, 10)) (fun k => ?_) ?_
      · simp only [pack_TakeNumber.l0]
        rw [if_pos (by omega), w1, if_pos (by omega)]
      · rw [List.drop_eq_nil_of_le (by rw [bytesOf_length]; omega)]
        rw [tnS_nil, if_pos (by omega), rel_err _ _ (by decide)]
        exact Ev.now _
    · have hb := bt_range s ((a + i : Nat) : Int)
      rw [rd_drop_bt s (a + i) (by omega)]
      obtain ⟨c, hc⟩ : ∃ c, bt s ((a + i : Nat) : Int) = c := ⟨_, rfl⟩
      rw [hc] at hb ⊢
      have head : ∀ k, pack_TakeNumber.l0 (k + 1) s (a : Int) n (i : Int) = pack_TakeNumber.j2 k s (a : Int) n (i : Int) c (i : Int) (decide (i = 9 ∧ c > 1)) := fun k => by
        simp only [pack_TakeNumber.l0]
        rw [if_pos (by omega), w1, if_neg (by omega), if_pos (by omega), if_pos (by omega), hc]
        by_cases h9 : i = 9
        · rw [if_pos (by omega)]
          congr 1
          simp [h9]
        · rw [if_neg (by omega)]
          congr 1
          simp [h9]
      by_cases c1 : i = 9 ∧ c > 1
      · refine ev_shift 2 (f := fun _ => some (0, 0, 11)) (fun k => ?_) ?_
        · rw [head, decide_eq_true c1, pack_TakeNumber.j2, if_pos rfl]
        · rw [tnS_cons, if_neg (by omega), if_pos c1, rel_err _ _ (by decide)]
          exact Ev.now _
      · have hm := or_more n c i (by omega) ⟨h0, h1⟩ ⟨hb.1, by omega⟩ (fun h => by omega)
        by_cases c2 : c ≥ 128
        · have hlt : n + c % 128 * 128 ^ i < 128 ^ (i + 1) := by
            have p0 : (0 : Int) ≤ 128 ^ i := by omega
            have : c % 128 * 128 ^ i ≤ 127 * 128 ^ i := Int.mul_le_mul_of_nonneg_right (by omega) p0
            rw [Int.pow_succ]
            omega
          have hge : 0 ≤ n + c % 128 * 128 ^ i := by
            have p0 : (0 : Int) ≤ 128 ^ i := by omega
            have : 0 ≤ c % 128 * 128 ^ i := Int.mul_nonneg (by omega) p0
            omega
          have := ih (i + 1) (n + c % 128 * 128 ^ i) (by omega) (by omega) hge hlt
          rw [tnS_cons, if_neg (by omega), if_neg c1, if_pos c2]
          refine ev_shift 2 (fun k => ?_) this
          rw [head, decide_eq_false c1, pack_TakeNumber.j2, if_neg (by simp), hz, if_pos (by omega), if_pos c2, ← hz, hm, w2]
        · have h128 : c % 128 = c := by omega
          rw [h128] at hm
          rw [tnS_cons, if_neg (by omega), if_neg c1, if_neg c2]
          by_cases c3 : c = 0 ∧ i > 0
          · rw [if_pos c3, rel_err _ _ (by decide)]
            refine ev_shift 2 (f := fun _ => some (0, 0, 11)) (fun k => ?_) (Ev.now _)
            rw [head, decide_eq_false c1, pack_TakeNumber.j2, if_neg (by simp), hz, if_pos (by omega), if_neg c2, if_pos c3.1, if_pos (by omega)]
          · rw [if_neg c3, rel_ok]
            have w3 : wrap64 ((wrap64 ((a : Int) + (i : Int))) + 1) = (a : Int) + ((i : Int) + 1) := by rw [w1]; unfold wrap64; omega
            refine ev_shift 2 (f := fun _ => some (n + c * 128 ^ i, (a : Int) + ((i : Int) + 1), 0)) (fun k => ?_) ?_
            · rw [head, decide_eq_false c1, pack_TakeNumber.j2, if_neg (by simp), if_pos (by rw [hz]; omega), if_neg c2, hm, w3]
              by_cases c4 : c = 0
              · rw [if_pos c4, if_neg (by omega)]
              · rw [if_neg c4]
            · exact Ev.now _
theorem take_ev (s : ByteArray) (hs : s.size ≤ 140737488351232) (a : Int) : Ev (fun k => pack_TakeNumber.f k s a) (TN s a) := by
  have bad : Ev (fun k => pack_TakeNumber.j0 k s a true) (0, 0, 2) := Ev.step (f := fun _ => some (0, 0, 2)) (fun k => by simp only [pack_TakeNumber.j0, if_true]) (Ev.now _)
  by_cases c1 : a < 0
  · have : TN s a = (0, 0, 2) := if_pos (.inl c1)
    rw [this]
    exact Ev.congr (fun k => by unfold pack_TakeNumber.f; rw [if_pos c1]) bad
  by_cases c2 : a > (s.size : Int)
  · have : TN s a = (0, 0, 2) := if_pos (.inr c2)
    rw [this]
    exact Ev.congr (fun k => by unfold pack_TakeNumber.f; rw [if_neg c1, decide_eq_true c2]) bad
  obtain ⟨m, rfl⟩ := Int.eq_ofNat_of_zero_le (show 0 ≤ a by omega)
  have : TN s (m : Int) = rel (m : Int) (tnS ((bytesOf s).drop (m + 0)) 0 0) := if_neg (by omega)
  rw [this]
  refine Ev.congr (f := fun k => pack_TakeNumber.j0 k s (m : Int) false) (fun k => by unfold pack_TakeNumber.f; rw [if_neg c1, decide_eq_false c2]) ?_
  refine Ev.step (fun k => ?_) (take_loop s hs m 10 0 0 (by omega) (by omega) (by omega) (by decide))
  simp only [pack_TakeNumber.j0, Bool.false_eq_true, if_false]
  rfl
theorem tn_facts (s : ByteArray) (hs : s.size ≤ 140737488351232) (a : Int) : (TN s a).2.2 ≠ 0 ∧ (TN s a).1 = 0 ∧ (TN s a).2.1 = 0 ∨ (TN s a).2.2 = 0 ∧ 0 ≤ (TN s a).1 ∧ (TN s a).1 < 18446744073709551616 ∧ 0 ≤ a ∧ a < (TN s a).2.1 ∧ (TN s a).2.1 ≤ (s.size : Int) := by
  by_cases c : a < 0 ∨ a > (s.size : Int)
  · have : TN s a = (0, 0, 2) := if_pos c
    rw [this]; left; simp
  · have e : TN s a = rel a (tnS ((bytesOf s).drop a.toNat) 0 0) := if_neg c
    rw [e]
    rcases tnS_err ((bytesOf s).drop a.toNat) 0 0 with h | ⟨h1, h2, h3⟩
    · right
      obtain ⟨m, r, h4, h5, h6, h7, h8⟩ := tnS_ok _ (fun x hx => bytesOf_byte s x (List.mem_of_mem_drop hx)) h
      rw [h7]
      have hl := congrArg List.length h4
      rw [List.length_drop, bytesOf_length, List.length_append] at hl
      have hp : 1 ≤ m.length := by
        match m, h5 with
        | [], h5 => exact absurd h5 (by simp [Canon])
        | x :: m, _ => simp
      have hv := valS_nonneg m
      rw [rel_ok]
      exact ⟨rfl, hv, h8, by show 0 ≤ a; omega, by show a < a + (m.length : Int); omega, by show a + (m.length : Int) ≤ _; omega⟩
    · left
      have h4 : (tnS ((bytesOf s).drop a.toNat) 0 0).2.2 ≠ 0 := by omega
      exact ⟨h4, h1, if_neg h4⟩
/-- What is taken as a text. -/
def TT (s : ByteArray) (a : Int) : ByteArray × Int × Int :=
  if (TN s a).2.2 = 0 then (if (TN s a).1 > (s.size : Int) - (TN s a).2.1 then (ByteArray.empty, 0, 10) else (s.extract (TN s a).2.1.toNat ((TN s a).2.1 + (TN s a).1).toNat, (TN s a).2.1 + (TN s a).1, 0)) else (ByteArray.empty, 0, (TN s a).2.2)
theorem taketext_ev (s : ByteArray) (hs : s.size ≤ 140737488351232) (a : Int) : Ev (fun k => pack_TakeText.f k s a) (TT s a) := by
  unfold pack_TakeText.f
  refine Ev.bind (take_ev s hs a) ?_
  refine Ev.congr (f := fun _ => some (TT s a)) (fun k => ?_) (Ev.now _)
  unfold TT
  rcases tn_facts s hs a with ⟨h, _, _⟩ | ⟨h, h1, h2, h3, h4, h5⟩
  · rw [if_neg h, if_neg h]; rfl
  · rw [if_pos h, if_pos h, wr ((s.size : Int) - (TN s a).2.1) (by omega), uw ((s.size : Int) - (TN s a).2.1) (by omega)]
    by_cases c : (TN s a).1 > (s.size : Int) - (TN s a).2.1
    · rw [if_pos c, if_pos c]; rfl
    · rw [if_neg c, if_neg c, wr (TN s a).1 (by omega), wr ((TN s a).2.1 + (TN s a).1) (by omega), if_pos (by omega), if_pos (by omega), if_pos (by omega)]
/-- How far value goes. -/
theorem valS_drop_le (l : List Int) (j : Nat) : valS (l.drop j) ≤ valS l := by
  induction j generalizing l with
  | zero => simp
  | succ j ih =>
    match l with
    | [] => simp
    | x :: l =>
      simp only [List.drop_succ_cons, valS]
      have := ih l
      have := valS_nonneg l
      omega
theorem value_loop (s : ByteArray) (hs : s.size ≤ 1000) (i : Nat) : i < s.size →
    Ev (fun k => ententeref01_value.l0 k s (valS ((bytesOf s).drop (i + 1))) (i : Int)) (if valS ((bytesOf s).drop 1) ≤ 144115188075855871 then (valS (bytesOf s), true) else (0, false)) := by
  induction i with
  | zero =>
    intro hi
    show Ev (fun k => ententeref01_value.l0 k s (valS ((bytesOf s).drop 1)) 0) _
    have hv := valS_nonneg ((bytesOf s).drop 1)
    by_cases c : valS ((bytesOf s).drop 1) ≤ 144115188075855871
    · rw [if_pos c]
      have hb := bt_range s 0
      have e0 := rd_drop_bt s 0 hi
      rw [List.drop_zero] at e0
      have ev : valS (bytesOf s) = bt s 0 % 128 + 128 * valS ((bytesOf s).drop 1) := by
        conv => lhs; rw [e0]
        rfl
      refine ev_shift 2 (f := fun _ => some (valS (bytesOf s), true)) (fun k => ?_) (Ev.now _)
      rw [ententeref01_value.l0, if_pos (by omega), if_neg (by omega), if_pos (by omega), if_pos (by omega)]
      have t1 : Int.tmod (bt s 0) 128 = bt s 0 % 128 := Int.tmod_eq_emod_of_nonneg hb.1
      rw [t1, uw (128 * valS ((bytesOf s).drop 1)) (by omega), uw (bt s 0 % 128) (by omega), uw _ (by omega), wr ((0 : Int) - 1) (by omega), ententeref01_value.l0, if_neg (by omega), ev]
      congr 2
      omega
    · rw [if_neg c]
      refine Ev.step (f := fun _ => some (0, false)) (fun k => ?_) (Ev.now _)
      rw [ententeref01_value.l0, if_pos (by omega), if_pos (by omega)]
  | succ i ih =>
    intro hi
    have hv := valS_nonneg ((bytesOf s).drop (i + 1 + 1))
    by_cases c : valS ((bytesOf s).drop (i + 1 + 1)) > 144115188075855871
    · have h1 := valS_drop_le ((bytesOf s).drop 1) (i + 1)
      rw [List.drop_drop, show 1 + (i + 1) = i + 1 + 1 by omega] at h1
      rw [if_neg (by omega)]
      refine Ev.step (f := fun _ => some (0, false)) (fun k => ?_) (Ev.now _)
      rw [ententeref01_value.l0, if_pos (by omega), if_pos c]
    · have hb := bt_range s ((i + 1 : Nat) : Int)
      have e0 := rd_drop_bt s (i + 1) hi
      have ev : valS ((bytesOf s).drop (i + 1)) = bt s ((i + 1 : Nat) : Int) % 128 + 128 * valS ((bytesOf s).drop (i + 1 + 1)) := by
        rw [e0]; rfl
      refine Ev.step (fun k => ?_) (ih (by omega))
      rw [ententeref01_value.l0, if_pos (by omega), if_neg c, if_pos (by omega), if_pos (by omega)]
      have t1 : Int.tmod (bt s ((i + 1 : Nat) : Int)) 128 = bt s ((i + 1 : Nat) : Int) % 128 := Int.tmod_eq_emod_of_nonneg hb.1
      rw [t1, uw (128 * valS ((bytesOf s).drop (i + 1 + 1))) (by omega), uw (bt s ((i + 1 : Nat) : Int) % 128) (by omega), uw _ (by omega), show wrap64 (((i + 1 : Nat) : Int) - 1) = (i : Int) by unfold wrap64; omega, ev]
      congr 1
      omega
theorem value_ev (s : ByteArray) (hs : s.size ≤ 1000) (h1 : 1 ≤ s.size) : Ev (fun k => ententeref01_value.f k s) (if valS ((bytesOf s).drop 1) ≤ 144115188075855871 then (valS (bytesOf s), true) else (0, false)) := by
  have := value_loop s hs (s.size - 1) (by omega)
  rw [List.drop_eq_nil_of_le (by rw [bytesOf_length]; omega)] at this
  refine Ev.congr (fun k => ?_) this
  unfold ententeref01_value.f
  rw [show wrap64 ((s.size : Int) - 1) = ((s.size - 1 : Nat) : Int) by unfold wrap64; omega]
  rfl
/-- The first bytes, cut out. -/
theorem piece_bytes (s : ByteArray) (a : Nat) (p r : List Int) (h : (bytesOf s).drop a = p ++ r) : bytesOf (s.extract a (a + p.length)) = p := by
  rw [bytesOf_extract, List.drop_take, h, Nat.add_sub_cancel_left, List.take_left]
theorem rtake_stop (s : ByteArray) (hs : s.size ≤ 140737488351232) (a : Nat) (p : List Int) (c : Int) (r : List Int) (hp : High p) (hl : p.length ≤ 9) (hc : 0 ≤ c ∧ c < 128) (e : (bytesOf s).drop a = p ++ c :: r) :
    Ev (fun k => ententeref01_TakeNumber.j2 k s (a : Int) ((a + p.length : Nat) : Int) false) (rel (a : Int) (tnS ((bytesOf s).drop a) 0 0)) := by
  have hlen := congrArg List.length e
  rw [List.length_drop, bytesOf_length, List.length_append, List.length_cons] at hlen
  have w1 : wrap64 (((a + p.length : Nat) : Int) + 1) = ((a + p.length + 1 : Nat) : Int) := by unfold wrap64; omega
  have e' : (bytesOf s).drop a = (p ++ [c]) ++ r := by rw [e]; simp
  have hpb := piece_bytes s a (p ++ [c]) r e'
  rw [List.length_append, List.length_singleton, ← Nat.add_assoc] at hpb
  obtain ⟨q, hq⟩ : ∃ q, s.extract a (a + p.length + 1) = q := ⟨_, rfl⟩
  rw [hq] at hpb
  have hqs : q.size = p.length + 1 := by rw [← size_bytesOf, hpb]; simp
  have hv := value_ev q (by omega) (by omega)
  rw [hpb] at hv
  rw [e, tnS_stop p c r hp hl hc]
  have big : (∀ k, ententeref01_TakeNumber.j2 (k + 1) s (a : Int) ((a + p.length : Nat) : Int) false = ((ententeref01_value.f k q).bind fun bt149 => (if bt149.2 = true then ((ententeref01_Number.f k bt149.1).bind fun t151 => (if t151.toList = q.toList then (some (bt149.1, ((a + p.length + 1 : Nat) : Int), 0)) else (some (0, 0, 11)))) else (some (0, 0, 11))))) := fun k => by
    rw [ententeref01_TakeNumber.j2, if_neg (by simp), if_neg (by omega), if_pos (by omega), w1, if_pos (by omega), if_pos (by omega), Int.toNat_natCast, Int.toNat_natCast, hq]
  refine Ev.step big ?_
  refine Ev.bind hv ?_
  by_cases c1 : p.length = 9 ∧ c > 1
  · rw [if_pos c1, if_neg]
    · exact Ev.congr (fun k => if_neg (by simp)) (Ev.now _)
    · obtain ⟨x, p', rfl⟩ : ∃ x p', p = x :: p' := by
        cases p with
        | nil => simp at c1
        | cons x p' => exact ⟨x, p', rfl⟩
      simp only [List.cons_append, List.drop_succ_cons, List.drop_zero]
      rw [valS_append, valS_one c hc]
      have h8 : p'.length = 8 := by simp at c1; omega
      rw [h8, show (128 : Int) ^ 8 = 72057594037927936 by decide]
      have := valS_nonneg p'
      omega
  · rw [if_neg c1]
    have okv : valS ((p ++ [c]).drop 1) ≤ 144115188075855871 := by
      cases p with
      | nil => simp [valS]
      | cons x p' =>
        simp only [List.cons_append, List.drop_succ_cons, List.drop_zero]
        rw [valS_append, valS_one c hc]
        have hv := valS_lt p'
        have h8 : p'.length ≤ 8 := by simp at hl; omega
        by_cases h8' : p'.length = 8
        · have e8 : (128 : Int) ^ p'.length = 72057594037927936 := by rw [h8']; decide
          rw [e8] at hv ⊢
          have : c ≤ 1 := by rw [List.length_cons] at c1; omega
          omega
        · have hm : (128 : Nat) ^ p'.length ≤ 128 ^ 7 := Nat.pow_le_pow_right (by decide) (by omega)
          have q7 : ((128 ^ p'.length : Nat) : Int) ≤ ((128 ^ 7 : Nat) : Int) := by exact_mod_cast hm
          have q8 : ((128 ^ p'.length : Nat) : Int) = (128 : Int) ^ p'.length := by simp
          have q9 : ((128 ^ 7 : Nat) : Int) = 562949953421312 := by decide
          have hn := valS_nonneg p'
          have : (128 : Int) ^ p'.length * c ≤ 562949953421312 * 127 := Int.mul_le_mul (by omega) (by omega) hc.1 (by decide)
          omega
    rw [if_pos okv]
    refine Ev.congr (fun k => if_pos rfl) ?_
    have hval : 0 ≤ valS (p ++ [c]) ∧ valS (p ++ [c]) < 18446744073709551616 := by
      refine ⟨valS_nonneg _, ?_⟩
      have : valS (p ++ [c]) ≤ 127 + 128 * valS ((p ++ [c]).drop 1) := by
        cases p with
        | nil => simp only [List.nil_append, List.drop_succ_cons, List.drop_zero, valS]; omega
        | cons x p' => simp only [List.cons_append, List.drop_succ_cons, List.drop_zero, valS]; omega
      omega
    refine Ev.bind (rnumber_ev _ hval) ?_
    have eqv : (Nm (valS (p ++ [c]))).toList = q.toList ↔ numS (valS (p ++ [c])).toNat = p ++ [c] := by
      rw [toList_iff]
      constructor
      · intro h
        have := congrArg bytesOf h
        rwa [nm_bytes, hpb] at this
      · intro h
        exact bytesOf_inj (by rw [nm_bytes, hpb, h])
    by_cases c2 : c = 0 ∧ p.length > 0
    · rw [if_pos c2]
      refine Ev.congr (fun k => if_neg ?_) (Ev.now _)
      intro h
      have h2 := eqv.1 h
      have h3 := canon_numS (valS (p ++ [c])).toNat
      rw [h2] at h3
      obtain ⟨p2, d, e2, _, _, _, hd⟩ := canon_parts _ h3
      have e3 := List.append_inj' e2 rfl
      have e4 : c = d := by simpa using e3.2
      rcases hd with hd | hd
      · omega
      · rw [hd] at e3; rw [e3.1] at c2; simp at c2
    · rw [if_neg c2]
      refine Ev.congr (f := fun _ => some (valS (p ++ [c]), ((a + p.length + 1 : Nat) : Int), 0)) (fun k => if_pos (eqv.2 (canon_val _ (canon_snoc p c hp hc ?_)))) ?_
      · rcases Decidable.em (c = 0) with c0 | c0
        · exact .inr (List.eq_nil_of_length_eq_zero (by omega))
        · exact .inl c0
      · rw [rel_ok]
        rw [show ((a + p.length + 1 : Nat) : Int) = (a : Int) + ((p.length : Int) + 1) by omega]
        exact Ev.now _
/-- The loop goes over what is 128 and more. -/
theorem rtake_walk (s : ByteArray) (hs : s.size ≤ 140737488351232) (a : Nat) (q : List Int) : ∀ (j : Nat) (r : List Int) (res : Int × Int × Int), High q → j + q.length ≤ 9 → (bytesOf s).drop (a + j) = q ++ r →
    Ev (fun k => ententeref01_TakeNumber.l0 k s (a : Int) ((a + j + q.length : Nat) : Int)) res → Ev (fun k => ententeref01_TakeNumber.l0 k s (a : Int) ((a + j : Nat) : Int)) res := by
  induction q with
  | nil => intro j r res _ _ _ h; simpa using h
  | cons x q ih =>
    intro j r res hq hl e h
    have hx := hq x (List.mem_cons_self ..)
    simp only [List.length_cons] at hl h
    have hlen := congrArg List.length e
    rw [List.length_drop, bytesOf_length, List.length_append, List.length_cons] at hlen
    have hb := rd_drop_bt s (a + j) (by omega)
    rw [e, List.cons_append] at hb
    simp only [List.cons.injEq] at hb
    have := ih (j + 1) r res (fun y hy => hq y (List.mem_cons_of_mem _ hy)) (by omega) hb.2.symm (by rw [show a + (j + 1) + q.length = a + j + (q.length + 1) by omega]; exact h)
    refine ev_shift 2 (fun k => ?_) this
    rw [ententeref01_TakeNumber.l0, if_pos (by omega), if_pos (by omega), ← hb.1, decide_eq_true (by omega), ententeref01_TakeNumber.j2, if_pos rfl]
    rw [show wrap64 (((a + j : Nat) : Int) + 1) = ((a + (j + 1) : Nat) : Int) by unfold wrap64; omega, show wrap64 (((a + (j + 1) : Nat) : Int) - (a : Int)) = ((j + 1 : Nat) : Int) by unfold wrap64; omega, if_neg (by omega)]
theorem rtake_ev (s : ByteArray) (hs : s.size ≤ 140737488351232) (a : Int) : Ev (fun k => ententeref01_TakeNumber.f k s a) (TN s a) := by
  have bad : Ev (fun k => ententeref01_TakeNumber.j0 k s a true) (0, 0, 2) := Ev.step (f := fun _ => some (0, 0, 2)) (fun k => by simp only [ententeref01_TakeNumber.j0, if_true]) (Ev.now _)
  by_cases c1 : a < 0
  · have : TN s a = (0, 0, 2) := if_pos (.inl c1)
    rw [this]
    exact Ev.congr (fun k => by unfold ententeref01_TakeNumber.f; rw [if_pos c1]) bad
  by_cases c2 : a > (s.size : Int)
  · have : TN s a = (0, 0, 2) := if_pos (.inr c2)
    rw [this]
    exact Ev.congr (fun k => by unfold ententeref01_TakeNumber.f; rw [if_neg c1, decide_eq_true c2]) bad
  obtain ⟨m, rfl⟩ := Int.eq_ofNat_of_zero_le (show 0 ≤ a by omega)
  have et : TN s (m : Int) = rel (m : Int) (tnS ((bytesOf s).drop m) 0 0) := if_neg (by omega)
  rw [et]
  refine Ev.congr (f := fun k => ententeref01_TakeNumber.j0 k s (m : Int) false) (fun k => by unfold ententeref01_TakeNumber.f; rw [if_neg c1, decide_eq_false c2]) ?_
  refine Ev.step (f := fun k => ententeref01_TakeNumber.l0 k s (m : Int) ((m + 0 : Nat) : Int)) (fun k => by simp only [ententeref01_TakeNumber.j0, Bool.false_eq_true, if_false]; rfl) ?_
  rcases high_split ((bytesOf s).drop m) (fun x hx => bytesOf_byte s x (List.mem_of_mem_drop hx)) with ⟨p, r, e, hp, hl⟩ | ⟨p, e, hp, hl⟩ | ⟨p, c, r, e, hp, hl, hc⟩
  · obtain ⟨q, x, rfl⟩ : ∃ q x, p = q ++ [x] := ⟨p.dropLast, p.getLast (by intro e; rw [e] at hl; simp at hl), (List.dropLast_concat_getLast _).symm⟩
    have hx := hp x (by simp)
    rw [List.length_append, List.length_singleton] at hl
    have hlen := congrArg List.length e
    rw [List.length_drop, bytesOf_length, List.length_append, List.length_append, List.length_singleton] at hlen
    refine rtake_walk s hs m q 0 (x :: r) _ (fun y hy => hp y (by simp [hy])) (by omega) (by rw [Nat.add_zero, e]; simp) ?_
    have hd : (bytesOf s).drop (m + 0 + q.length) = x :: r := by
      rw [Nat.add_zero, ← List.drop_drop, e, List.append_assoc, List.drop_left]; rfl
    have hb := rd_drop_bt s (m + 0 + q.length) (by omega)
    rw [hd] at hb
    simp only [List.cons.injEq] at hb
    rw [e, tnS_much _ r hp (by rw [List.length_append, List.length_singleton]; exact hl)]
    refine ev_shift 2 (f := fun _ => some (0, 0, 11)) (fun k => ?_) (Ev.now _)
    rw [ententeref01_TakeNumber.l0, if_pos (by omega), if_pos (by omega), ← hb.1, decide_eq_true (by omega), ententeref01_TakeNumber.j2, if_pos rfl]
    rw [show wrap64 (((m + 0 + q.length : Nat) : Int) + 1) = ((m + q.length + 1 : Nat) : Int) by unfold wrap64; omega, show wrap64 (((m + q.length + 1 : Nat) : Int) - (m : Int)) = ((q.length + 1 : Nat) : Int) by unfold wrap64; omega, if_pos (by omega)]
  · have hlen := congrArg List.length e
    rw [List.length_drop, bytesOf_length] at hlen
    refine rtake_walk s hs m p 0 [] _ hp (by omega) (by rw [Nat.add_zero, e, List.append_nil]) ?_
    rw [e, tnS_end p hp hl]
    refine ev_shift 2 (f := fun _ => some (0, 0, 10)) (fun k => ?_) (Ev.now _)
    rw [ententeref01_TakeNumber.l0, if_neg (by omega), ententeref01_TakeNumber.j2, if_neg (by simp), if_pos (by omega)]
  · have hlen := congrArg List.length e
    rw [List.length_drop, bytesOf_length, List.length_append, List.length_cons] at hlen
    refine rtake_walk s hs m p 0 (c :: r) _ hp (by omega) (by rw [Nat.add_zero, e]) ?_
    have hd : (bytesOf s).drop (m + 0 + p.length) = c :: r := by
      rw [Nat.add_zero, ← List.drop_drop, e, List.drop_left]
    have hb := rd_drop_bt s (m + 0 + p.length) (by omega)
    rw [hd] at hb
    simp only [List.cons.injEq] at hb
    refine Ev.step (fun k => ?_) (rtake_stop s hs m p c r hp hl hc e)
    rw [ententeref01_TakeNumber.l0, if_pos (by omega), if_pos (by omega), ← hb.1, decide_eq_false (by omega), Nat.add_zero]
theorem rtaketext_ev (s : ByteArray) (hs : s.size ≤ 140737488351232) (a : Int) : Ev (fun k => ententeref01_TakeText.f k s a) (TT s a) := by
  unfold ententeref01_TakeText.f
  refine Ev.bind (rtake_ev s hs a) ?_
  refine Ev.congr (f := fun _ => some (TT s a)) (fun k => ?_) (Ev.now _)
  unfold TT
  rcases tn_facts s hs a with ⟨h, _, _⟩ | ⟨h, h1, h2, h3, h4, h5⟩
  · rw [if_neg h, if_neg h]; rfl
  · rw [if_pos h, if_pos h, wr ((s.size : Int) - (TN s a).2.1) (by omega), uw ((s.size : Int) - (TN s a).2.1) (by omega)]
    by_cases c : (TN s a).1 > (s.size : Int) - (TN s a).2.1
    · rw [if_pos c, if_pos c]; rfl
    · rw [if_neg c, if_neg c, wr (TN s a).1 (by omega), wr ((TN s a).2.1 + (TN s a).1) (by omega), if_pos (by omega), if_pos (by omega), if_pos (by omega)]
/-- A text that is taken ends behind the place, within the bytes. -/
theorem tt_facts (s : ByteArray) (hs : s.size ≤ 140737488351232) (a : Int) : (TT s a).2.2 ≠ 0 ∨ (TT s a).2.2 = 0 ∧ 0 ≤ a ∧ a < (TT s a).2.1 ∧ (TT s a).2.1 ≤ (s.size : Int) := by
  unfold TT
  rcases tn_facts s hs a with ⟨h, _, _⟩ | ⟨h, h1, h2, h3, h4, h5⟩
  · left; rw [if_neg h]; exact h
  · rw [if_pos h]
    by_cases c : (TN s a).1 > (s.size : Int) - (TN s a).2.1
    · left; rw [if_pos c]; decide
    · right; rw [if_neg c]
      exact ⟨rfl, h3, by show a < (TN s a).2.1 + (TN s a).1; omega, by show (TN s a).2.1 + (TN s a).1 ≤ _; omega⟩
/-- Texts, taken one behind the other: n of them are missing. -/
def TL (s : ByteArray) : Nat → Int → Int → List ByteArray → List ByteArray × Int × Int
  | 0, _, a, l => (l, a, 0)
  | d + 1, n, a, l => if n > 0 then (if (TT s a).2.2 = 0 then TL s d (n - 1) (TT s a).2.1 (l ++ [(TT s a).1]) else ([], 0, (TT s a).2.2)) else (l, a, 0)
def TLs (s : ByteArray) (a : Int) : List ByteArray × Int × Int :=
  if (TN s a).2.2 = 0 then TL s (s.size + 1) (TN s a).1 (TN s a).2.1 [] else ([], 0, (TN s a).2.2)
theorem list_loop (s : ByteArray) (hs : s.size ≤ 100000) (d : Nat) : ∀ (n a : Int) (l : List ByteArray), 0 ≤ n → n < 18446744073709551616 → 0 ≤ a → a ≤ (s.size : Int) → (s.size : Int) - a < (d : Int) → l.length + d ≤ 1000000 →
    Ev (fun k => pack_TakeTexts.l0 k n s a l) (TL s d n a l) := by
  induction d with
  | zero => intro n a l _ _ _ _ _; omega
  | succ d ih =>
    intro n a l h0 h1 h2 h3 h4 h5
    by_cases c : n > 0
    · rw [TL, if_pos c]
      refine Ev.step (f := fun k => (pack_TakeText.f k s a).bind fun bt => (if bt.2.2 = 0 then (pack_TakeTexts.l0 k (n - 1) s bt.2.1 (l ++ [bt.1])) else (some ([], 0, bt.2.2)))) (fun k => ?_) ?_
      · rw [pack_TakeTexts.l0, if_pos c, if_pos (by omega), uw (n - 1) (by omega)]
      · refine Ev.bind (taketext_ev s (by omega) a) ?_
        rcases tt_facts s (by omega) a with h | ⟨h, g1, g2, g3⟩
        · rw [if_neg h]
          exact Ev.congr (fun k => if_neg h) (Ev.now _)
        · rw [if_pos h]
          refine Ev.congr (fun k => if_pos h) (ih (n - 1) _ _ (by omega) (by omega) (by omega) g3 (by omega) ?_)
          rw [List.length_append, List.length_singleton]; omega
    · rw [TL, if_neg c]
      refine Ev.step (f := fun _ => some (l, a, 0)) (fun k => ?_) (Ev.now _)
      rw [pack_TakeTexts.l0, if_neg c]
theorem list_ev (s : ByteArray) (hs : s.size ≤ 100000) (a : Int) : Ev (fun k => pack_TakeTexts.f k s a) (TLs s a) := by
  unfold pack_TakeTexts.f TLs
  refine Ev.bind (take_ev s (by omega) a) ?_
  rcases tn_facts s (by omega) a with ⟨h, _, _⟩ | ⟨h, h1, h2, h3, h4, h5⟩
  · rw [if_neg h]
    exact Ev.congr (fun k => if_neg h) (Ev.now _)
  · rw [if_pos h]
    refine Ev.congr (fun k => if_pos h) (list_loop s hs (s.size + 1) _ _ [] h1 h2 (by omega) h5 (by omega) ?_)
    simp only [List.length_nil]; omega
theorem rlist_loop (s : ByteArray) (hs : s.size ≤ 100000) (d : Nat) : ∀ (n a : Int) (l : List ByteArray), (l.length : Int) ≤ n → n < 18446744073709551616 → 0 ≤ a → a ≤ (s.size : Int) → (s.size : Int) - a < (d : Int) → l.length + d ≤ 1000000 →
    Ev (fun k => ententeref01_TakeTexts.l0 k s n a l) (TL s d (n - (l.length : Int)) a l) := by
  induction d with
  | zero => intro n a l _ _ _ _ _; omega
  | succ d ih =>
    intro n a l h0 h1 h2 h3 h4 h5
    have hu := uw (l.length : Int) (by omega)
    by_cases c : n - (l.length : Int) > 0
    · rw [TL, if_pos c]
      refine Ev.step (f := fun k => (ententeref01_TakeText.f k s a).bind fun bt => (if bt.2.2 = 0 then (if l.length < 8796093022208 then (ententeref01_TakeTexts.l0 k s n bt.2.1 (l ++ [bt.1])) else none) else (some ([], 0, bt.2.2)))) (fun k => ?_) ?_
      · rw [ententeref01_TakeTexts.l0, hu, if_pos (by omega)]
      · refine Ev.bind (rtaketext_ev s (by omega) a) ?_
        rcases tt_facts s (by omega) a with h | ⟨h, g1, g2, g3⟩
        · rw [if_neg h]
          exact Ev.congr (fun k => if_neg h) (Ev.now _)
        · rw [if_pos h]
          have e1 : (l ++ [(TT s a).1]).length = l.length + 1 := by rw [List.length_append, List.length_singleton]
          have := ih n (TT s a).2.1 (l ++ [(TT s a).1]) (by rw [e1]; omega) h1 (by omega) g3 (by omega) (by rw [e1]; omega)
          rw [e1, show n - ((l.length + 1 : Nat) : Int) = n - (l.length : Int) - 1 by omega] at this
          exact Ev.congr (fun k => by rw [if_pos h, if_pos (by omega)]) this
    · rw [TL, if_neg c]
      refine Ev.step (f := fun _ => some (l, a, 0)) (fun k => ?_) (Ev.now _)
      rw [ententeref01_TakeTexts.l0, hu, if_neg (by omega)]
theorem rlist_ev (s : ByteArray) (hs : s.size ≤ 100000) (a : Int) : Ev (fun k => ententeref01_TakeTexts.f k s a) (TLs s a) := by
  unfold ententeref01_TakeTexts.f TLs
  refine Ev.bind (rtake_ev s (by omega) a) ?_
  rcases tn_facts s (by omega) a with ⟨h, _, _⟩ | ⟨h, h1, h2, h3, h4, h5⟩
  · rw [if_neg h]
    exact Ev.congr (fun k => if_neg h) (Ev.now _)
  · rw [if_pos h]
    have := rlist_loop s hs (s.size + 1) (TN s a).1 (TN s a).2.1 [] (by simpa using h1) h2 (by omega) h5 (by omega) (by simp only [List.length_nil]; omega)
    rw [show (TN s a).1 - (([] : List ByteArray).length : Int) = (TN s a).1 by simp] at this
    exact Ev.congr (fun k => if_pos h) this
theorem same_loop (l : List ByteArray) (hl : l.length ≤ 1000000) (d : Nat) : ∀ (i : Nat), i + d = l.length → Ev (fun k => ententeref01_Same.l0 k l l (i : Int)) true := by
  induction d with
  | zero =>
    intro i hi
    refine Ev.step (f := fun _ => some true) (fun k => ?_) (Ev.now _)
    rw [ententeref01_Same.l0, if_neg (by omega)]
  | succ d ih =>
    intro i hi
    refine Ev.step (fun k => ?_) (ih (i + 1) (by omega))
    rw [ententeref01_Same.l0, if_pos (by omega), if_pos (by omega), if_pos (by omega), if_pos rfl, wr ((i : Int) + 1) (by omega)]
    rfl
theorem same_ev (l : List ByteArray) (hl : l.length ≤ 1000000) : Ev (fun k => ententeref01_Same.f k l l) true := by
  refine Ev.congr (fun k => ?_) (same_loop l hl l.length 0 (by omega))
  unfold ententeref01_Same.f
  exact if_pos rfl
theorem tl_len (s : ByteArray) (d : Nat) : ∀ (n a : Int) (l : List ByteArray), (TL s d n a l).1.length ≤ l.length + d := by
  induction d with
  | zero => intro n a l; simp [TL]
  | succ d ih =>
    intro n a l
    rw [TL]
    split
    · split
      · have := ih (n - 1) (TT s a).2.1 (l ++ [(TT s a).1])
        rw [List.length_append, List.length_singleton] at this
        omega
      · simp
    · simp
theorem tls_len (s : ByteArray) (a : Int) : (TLs s a).1.length ≤ s.size + 1 := by
  unfold TLs
  split
  · have := tl_len s (s.size + 1) (TN s a).1 (TN s a).2.1 []
    simpa using this
  · simp
theorem PackLists : ententelaw01_PackLists.Pure := by
  intro s a hs _
  refine Ev.rounds (g := fun k => ententelaw01_PackLists.f k s a) ?_
  unfold ententelaw01_PackLists.f
  by_cases c : (s.size : Int) > 50000
  · exact Ev.congr (fun k => if_pos c) (Ev.bind awake_ev (Ev.now true))
  · refine Ev.congr (fun k => if_neg c) ?_
    have hl := tls_len s a
    refine Ev.bind (list_ev s (by omega) a) (Ev.bind (rlist_ev s (by omega) a) (Ev.bind (same_ev _ (by omega)) ?_))
    exact Ev.congr (fun k => by rw [if_pos rfl, if_pos rfl, if_pos rfl]) (Ev.bind awake_ev (Ev.now true))

end Go.Proofs.Ytfhffabnllicdaa.Pure
