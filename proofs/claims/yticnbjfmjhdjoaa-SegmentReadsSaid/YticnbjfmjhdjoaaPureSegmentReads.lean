/- SegmentReads: proved for all arguments; no condition. -/
import Derived.Test.YticnbjfmjhdjoaaNum
import Derived.Test.YticnbjfmjhdjoaaPZx7
namespace Go.Proofs.Yticnbjfmjhdjoaa.Pure
open Go.RowKit Go.Proofs.Yticnbjfmjhdjoaa.PZ Go.Proofs.YticnbjfmjhdjoaaW.PrintWords Go.Proofs.YticnbjfmjhdjoaaW.PrintLast Go.Proofs.YticnbjfmjhdjoaaW.PrintMore Go.Proofs.Yticnbjfmjhdjoaa.Num
set_option linter.unusedVariables false
set_option linter.unusedSimpArgs false

/-- A number's form. -/
def Nm (n : Int) : ByteArray := strOfNums (numS n.toNat)
theorem nm_bytes (n : Int) : bytesOf (Nm n) = numS n.toNat := bytesOf_nums _ (numS_byte _)
theorem nm_size (n : Int) : (Nm n).size = (numS n.toNat).length := by rw [← size_bytesOf, nm_bytes]
theorem nm_ten (n : Int) (h : 0 ≤ n ∧ n < 18446744073709551616) : 1 ≤ (Nm n).size ∧ (Nm n).size ≤ 10 := by
  rw [nm_size]
  exact ⟨numS_pos _, numS_ten _ (by omega)⟩
theorem number_loop (n : Nat) : ∀ acc : List Int, acc.length + (numS n).length ≤ 1000 → Ev (fun k => pack_Number.l0 k (n : Int) acc) (strOfNums (acc ++ numS n)) := by
  induction n using Nat.strongRecOn with
  | _ n ih =>
    intro acc hl
    have hp := numS_pos n
    by_cases h : n < 128
    · refine Ev.step (f := fun _ => some (strOfNums (acc ++ numS n))) (fun k => ?_) (Ev.now _)
      simp only [pack_Number.l0]
      rw [if_neg (by omega), if_pos (by omega), numS_small h]
      congr 4
      omega
    · have e := numS_big h
      rw [e, List.length_cons] at hl
      have := ih (n / 128) (by omega) (acc ++ [((n % 128 + 128 : Nat) : Int)]) (by rw [List.length_append, List.length_singleton]; omega)
      rw [e]
      rw [List.append_assoc, List.singleton_append] at this
      refine Ev.step (fun k => ?_) this
      simp only [pack_Number.l0]
      rw [if_pos (by omega), if_pos (by omega), or128 _ (by omega)]
      have q1 : (n : Int) / 128 = ((n / 128 : Nat) : Int) := by omega
      have q2 : (n : Int) % 256 % 128 + 128 = ((n % 128 + 128 : Nat) : Int) := by omega
      rw [q1, q2]
theorem number_ev (n : Int) (h : 0 ≤ n ∧ n < 18446744073709551616) : Ev (fun k => pack_Number.f k n) (Nm n) := by
  obtain ⟨m, rfl⟩ := Int.eq_ofNat_of_zero_le h.1
  have := number_loop m [] (by have := numS_ten m (by omega); simp; omega)
  rw [List.nil_append] at this
  exact this
/-- A text's form. -/
def Tx (s : ByteArray) : ByteArray := Nm (s.size : Int) ++ s
theorem size_app (s t : ByteArray) : (s ++ t).size = s.size + t.size := by
  rw [← size_bytesOf, bytesOf_append, List.length_append, size_bytesOf, size_bytesOf]
theorem tx_size (s : ByteArray) (h : s.size ≤ 140737488351232) : (Tx s).size ≤ s.size + 10 := by
  unfold Tx
  have := (nm_ten (s.size : Int) (by omega)).2
  rw [size_app]; omega
theorem text_ev (s : ByteArray) (h : s.size ≤ 140737488351232) : Ev (fun k => pack_Text.f k s) (Tx s) := by
  have hn := nm_ten (s.size : Int) (by omega)
  have hu := uw (s.size : Int) (by omega)
  unfold pack_Text.f
  rw [hu]
  refine Ev.bind (number_ev (s.size : Int) (by omega)) ?_
  refine Ev.congr (f := fun _ => some (Tx s)) (fun k => ?_) (Ev.now _)
  rw [if_pos (by omega)]
  rfl
/-- Texts, one behind the other. -/
def cat : List ByteArray → ByteArray
  | [] => ByteArray.empty
  | s :: l => s ++ cat l
theorem drop_rdOf (l : List ByteArray) (i : Nat) (h : i < l.length) : l.drop i = rdOf ByteArray.empty l (i : Int) :: l.drop (i + 1) := by
  rw [List.drop_eq_getElem_cons h]
  congr 1
  unfold rdOf
  simp [List.getD_eq_getElem?_getD, List.getElem?_eq_getElem h]
theorem app_assoc (a b c : ByteArray) : a ++ b ++ c = a ++ (b ++ c) := bytesOf_inj (by simp only [bytesOf_append, List.append_assoc])
theorem app_empty (a : ByteArray) : a ++ ByteArray.empty = a := bytesOf_inj (by simp only [bytesOf_append, bytesOf_empty, List.append_nil])
/-! The register, as 64 bits. -/
def I64 (x : BitVec 64) : Int := (x.toNat : Int)
def B64 (n : Int) : BitVec 64 := BitVec.ofNat 64 n.toNat
theorem i64_range (x : BitVec 64) : 0 ≤ I64 x ∧ I64 x < 18446744073709551616 := by
  have := x.isLt
  unfold I64
  omega
theorem i64_b64 (n : Int) (h : 0 ≤ n ∧ n < 18446744073709551616) : I64 (B64 n) = n := by
  unfold I64 B64
  rw [BitVec.toNat_ofNat]
  omega
theorem b64_i64 (x : BitVec 64) : B64 (I64 x) = x := by
  unfold I64 B64
  rw [Int.toNat_natCast, BitVec.ofNat_toNat]
  simp
theorem i64_inj {x y : BitVec 64} (h : I64 x = I64 y) : x = y := by rw [← b64_i64 x, h, b64_i64]
theorem ofInt_i64 (x : BitVec 64) : BitVec.ofInt 64 (I64 x) = x := by
  unfold I64
  rw [BitVec.ofInt_natCast, BitVec.ofNat_toNat]
  simp
theorem xor_is (x y : BitVec 64) : Go.bits .xor .u64 (I64 x) (I64 y) = I64 (x ^^^ y) := by
  have h : Go.bits .xor .u64 (I64 x) (I64 y) = IntKind.u64.wrap (((BitVec.ofInt 64 (I64 x) ^^^ BitVec.ofInt 64 (I64 y)).toNat : Nat) : Int) := rfl
  rw [h, ofInt_i64, ofInt_i64]
  exact uw _ (i64_range _)
theorem and_is (x y : BitVec 64) : Go.bits .and .u64 (I64 x) (I64 y) = I64 (x &&& y) := by
  have h : Go.bits .and .u64 (I64 x) (I64 y) = IntKind.u64.wrap (((BitVec.ofInt 64 (I64 x) &&& BitVec.ofInt 64 (I64 y)).toNat : Nat) : Int) := rfl
  rw [h, ofInt_i64, ofInt_i64]
  exact uw _ (i64_range _)
theorem div16_is (x : BitVec 64) : I64 x / (16 : Int) = I64 (x >>> (4 : Nat)) := by
  unfold I64
  rw [BitVec.toNat_ushiftRight, Nat.shiftRight_eq_div_pow]
  omega
theorem div2_is (x : BitVec 64) : I64 x / (2 : Int) = I64 (x >>> (1 : Nat)) := by
  unfold I64
  rw [BitVec.toNat_ushiftRight, Nat.shiftRight_eq_div_pow]
  omega
/-- The polynomial. -/
def poly : BitVec 64 := 14514072000185962306#64
/-- One bit's step. -/
def st (x : BitVec 64) : BitVec 64 := (x >>> 1) ^^^ (if x.getLsbD 0 = true then poly else 0#64)
theorem st_xor (x y : BitVec 64) : st (x ^^^ y) = st x ^^^ st y := by
  unfold st
  rw [BitVec.ushiftRight_xor_distrib, BitVec.getLsbD_xor]
  cases x.getLsbD 0 <;> cases y.getLsbD 0 <;> simp
  · rw [BitVec.xor_assoc]
  · rw [BitVec.xor_assoc, BitVec.xor_assoc, BitVec.xor_comm (y >>> 1) poly]
  · rw [BitVec.xor_assoc (x >>> 1), BitVec.xor_comm poly, BitVec.xor_assoc (y >>> 1), BitVec.xor_self, BitVec.xor_zero]
def stn : Nat → BitVec 64 → BitVec 64
  | 0, x => x
  | n + 1, x => st (stn n x)
theorem stn_xor (n : Nat) (x y : BitVec 64) : stn n (x ^^^ y) = stn n x ^^^ stn n y := by
  induction n with
  | zero => rfl
  | succ n ih => rw [stn, ih, st_xor]; rfl
theorem stn_add (m n : Nat) (x : BitVec 64) : stn m (stn n x) = stn (m + n) x := by
  induction m with
  | zero => rw [Nat.zero_add]; rfl
  | succ m ih => rw [show m + 1 + n = (m + n) + 1 by omega, stn, ih]; rfl
theorem st_even (x : BitVec 64) (h : x.getLsbD 0 = false) : st x = x >>> 1 := by
  unfold st
  rw [h]
  simp
theorem stn_shift (n : Nat) (x : BitVec 64) (h : ∀ i, i < n → x.getLsbD i = false) : stn n x = x >>> n := by
  induction n with
  | zero => simp [stn]
  | succ n ih =>
    rw [stn, ih (fun i hi => h i (by omega)), st_even]
    · rw [BitVec.shiftRight_add]
    · rw [BitVec.getLsbD_ushiftRight, Nat.add_zero]
      exact h n (by omega)
theorem low_high (x : BitVec 64) : x = (x &&& 15#64) ^^^ (x &&& ~~~15#64) := by
  ext i hi
  simp only [BitVec.getElem_xor, BitVec.getElem_and, BitVec.getElem_not]
  cases x[i] <;> cases (15#64)[i] <;> rfl
theorem high_low (x : BitVec 64) : ∀ i, i < 4 → (x &&& ~~~15#64).getLsbD i = false := by
  intro i hi
  have : (~~~15#64).getLsbD i = false := by
    match i with
    | 0 | 1 | 2 | 3 => decide
    | i + 4 => omega
  rw [BitVec.getLsbD_and, this, Bool.and_false]
theorem high_shift (x : BitVec 64) : (x &&& ~~~15#64) >>> 4 = x >>> 4 := by
  rw [BitVec.ushiftRight_and_distrib]
  have : ((~~~15#64) >>> 4 : BitVec 64) = 1152921504606846975#64 := by decide
  rw [this]
  apply BitVec.eq_of_toNat_eq
  rw [BitVec.toNat_and, BitVec.toNat_ushiftRight, Nat.shiftRight_eq_div_pow]
  have h := x.isLt
  have e : (1152921504606846975#64).toNat = 2 ^ 60 - 1 := by decide
  rw [e, Nat.and_two_pow_sub_one_eq_mod, Nat.mod_eq_of_lt (by omega)]
theorem tab_is : ∀ n : Fin 16, rd seal_tab (n.val : Int) = I64 (stn 4 (BitVec.ofNat 64 n.val)) := by decide +kernel
theorem half_is (x : BitVec 64) : seal_half (I64 x) = I64 (stn 4 x) := by
  unfold seal_half
  have e15 : (15 : Int) = I64 15#64 := rfl
  rw [e15, and_is, div16_is]
  have hlt : (x &&& 15#64).toNat < 16 := by
    rw [BitVec.toNat_and]
    have : x.toNat &&& (15#64).toNat ≤ (15#64).toNat := Nat.and_le_right
    have e : (15#64).toNat = 15 := by decide
    omega
  have h := tab_is ⟨(x &&& 15#64).toNat, hlt⟩
  have h2 : BitVec.ofNat 64 (x &&& 15#64).toNat = x &&& 15#64 := by rw [BitVec.ofNat_toNat]; simp
  rw [h2] at h
  rw [show rd seal_tab (I64 (x &&& 15#64)) = I64 (stn 4 (x &&& 15#64)) from h]
  rw [xor_is]
  congr 1
  conv => rhs; rw [low_high x]
  rw [stn_xor, stn_shift 4 _ (high_low x), high_shift, BitVec.xor_comm]
/-- One byte. -/
def inB (r : BitVec 64) (c : Int) : BitVec 64 := stn 8 (r ^^^ B64 c)
def crc (r : BitVec 64) (l : List Int) : BitVec 64 := l.foldl inB r
/-- The sum of bytes. -/
def sumS (l : List Int) : Int := I64 (~~~ crc (BitVec.allOnes 64) l)
theorem max_is : Go.IntKind.u64.max = I64 (BitVec.allOnes 64) := by decide
theorem not_is (x : BitVec 64) : Go.bits .xor .u64 Go.IntKind.u64.max (I64 x) = I64 (~~~ x) := by
  rw [max_is, xor_is, BitVec.allOnes_xor]
theorem byte_is (x : BitVec 64) (c : Int) (hc : 0 ≤ c ∧ c ≤ 255) : seal_half (seal_half (Go.bits .xor .u64 (I64 x) (IntKind.u64.wrap c))) = I64 (inB x c) := by
  have e : c = I64 (B64 c) := (i64_b64 c (by omega)).symm
  rw [uw c (by omega)]
  conv => lhs; rw [e]
  rw [xor_is, half_is, half_is, stn_add]
  rfl
theorem inner_loop (l : List ByteArray) (s : ByteArray) (hs : s.size ≤ 140737488351232) (i : Int) (res : Int) (d : Nat) : ∀ (j : Nat) (x : BitVec 64), j + d = s.size →
    Ev (fun k => seal_Sum.l0 k l (I64 (crc x ((bytesOf s).drop j))) (wrap64 (i + 1))) res → Ev (fun k => seal_Sum.l1 k l s (I64 x) i (j : Int)) res := by
  induction d with
  | zero =>
    intro j x hj h
    rw [List.drop_eq_nil_of_le (by rw [bytesOf_length]; omega)] at h
    refine Ev.step (fun k => ?_) h
    rw [seal_Sum.l1, if_neg (by omega)]
    rfl
  | succ d ih =>
    intro j x hj h
    have hd : (bytesOf s).drop j = bt s (j : Int) :: (bytesOf s).drop (j + 1) := by
      rw [List.drop_eq_getElem_cons (by rw [bytesOf_length]; omega), bt_nat s j (by omega)]
    rw [hd] at h
    refine Ev.step (fun k => ?_) (ih (j + 1) (inB x (bt s (j : Int))) (by omega) h)
    rw [seal_Sum.l1, if_pos (by omega), if_pos (by omega), byte_is x _ (bt_range s _), wr _ (by omega)]
    rfl
theorem sum_loop (l : List ByteArray) (hr : ∀ s ∈ l, s.size ≤ 140737488351232) (hl : l.length ≤ 140737488351232) (d : Nat) : ∀ (i : Nat) (x : BitVec 64), i + d = l.length →
    Ev (fun k => seal_Sum.l0 k l (I64 x) (i : Int)) (I64 (~~~ crc x (bytesOf (cat (l.drop i))))) := by
  induction d with
  | zero =>
    intro i x hi
    refine Ev.step (f := fun _ => some (I64 (~~~ crc x (bytesOf (cat (l.drop i)))))) (fun k => ?_) (Ev.now _)
    rw [seal_Sum.l0, if_neg (by omega), not_is, List.drop_eq_nil_of_le (by omega), cat, bytesOf_empty]
    rfl
  | succ d ih =>
    intro i x hi
    have hd := drop_rdOf l i (by omega)
    have hm : rdOf ByteArray.empty l (i : Int) ∈ l := List.mem_of_mem_drop (by rw [hd]; exact List.mem_cons_self ..)
    refine Ev.step (fun k => by rw [seal_Sum.l0, if_pos (by omega), if_pos (by omega)]) ?_
    refine inner_loop l (rdOf ByteArray.empty l (i : Int)) (hr _ hm) (i : Int) _ (rdOf ByteArray.empty l (i : Int)).size 0 x (by omega) ?_
    rw [List.drop_zero, hd, cat, bytesOf_append, wr _ (by omega)]
    have := ih (i + 1) (crc x (bytesOf (rdOf ByteArray.empty l (i : Int)))) (by omega)
    rw [show crc x (bytesOf (rdOf ByteArray.empty l (i : Int)) ++ bytesOf (cat (l.drop (i + 1)))) = crc (crc x (bytesOf (rdOf ByteArray.empty l (i : Int)))) (bytesOf (cat (l.drop (i + 1)))) from List.foldl_append]
    exact this
theorem sum_ev (l : List ByteArray) (hr : ∀ s ∈ l, s.size ≤ 140737488351232) (hl : l.length ≤ 140737488351232) : Ev (fun k => seal_Sum.f k l) (sumS (bytesOf (cat l))) := by
  have := sum_loop l hr hl l.length 0 (BitVec.allOnes 64) (by omega)
  rw [List.drop_zero] at this
  exact this
/-- What is taken at a place: the number, the place behind, the error. -/
def TN (s : ByteArray) (at_ : Int) : Int × Int × Int :=
  if at_ < 0 ∨ at_ > (s.size : Int) then (0, 0, 2) else
    ((tnS ((bytesOf s).drop at_.toNat) 0 0).1, (if (tnS ((bytesOf s).drop at_.toNat) 0 0).2.2 = 0 then at_ + (tnS ((bytesOf s).drop at_.toNat) 0 0).2.1 else 0), (tnS ((bytesOf s).drop at_.toNat) 0 0).2.2)
def rel (a : Int) (r : Int × Int × Int) : Int × Int × Int := (r.1, (if r.2.2 = 0 then a + r.2.1 else 0), r.2.2)
theorem rel_err (a e : Int) (h : e ≠ 0) : rel a (0, 0, e) = (0, 0, e) := by unfold rel; rw [if_neg h]
theorem rel_ok (a n c : Int) : rel a (n, c, 0) = (n, a + c, 0) := by unfold rel; rw [if_pos rfl]
theorem tnS_nil (i : Nat) (n : Int) : tnS [] i n = if i < 10 then (0, 0, 10) else (0, 0, 11) := rfl
theorem tnS_cons (c : Int) (l : List Int) (i : Nat) (n : Int) : tnS (c :: l) i n = if 10 ≤ i then (0, 0, 11) else if i = 9 ∧ c > 1 then (0, 0, 11) else if c ≥ 128 then tnS l (i + 1) (n + c % 128 * 128 ^ i) else if c = 0 ∧ i > 0 then (0, 0, 11) else (n + c * 128 ^ i, i + 1, 0) := rfl
theorem pow7 (i : Nat) : (2 : Int) ^ (7 * i) = 128 ^ i := by rw [Int.pow_mul]; rfl
theorem pow7n (i : Nat) : (2 : Nat) ^ (7 * i) = 128 ^ i := by rw [Nat.pow_mul]
theorem pow_le (i : Nat) (h : i ≤ 9) : (128 : Nat) ^ i ≤ 9223372036854775808 := by
  have := Nat.pow_le_pow_right (show 0 < 128 by decide) h
  have e : (128 : Nat) ^ 9 = 9223372036854775808 := by decide
  omega
/-- Seven bits more. -/
theorem or_more (n c : Int) (i : Nat) (hi : i ≤ 9) (hn : 0 ≤ n ∧ n < 128 ^ i) (hc : 0 ≤ c ∧ c < 256) (h9 : i = 9 → c ≤ 1) :
    Go.bits .or .u64 n (shl .u64 (IntKind.u64.wrap (Go.bits .and .u8 c 127)) (IntKind.u64.wrap (wrap64 (7 * (i : Int))))) = n + c % 128 * 128 ^ i := by
  rw [and127 c hc, uw (c % 128) (by omega), wr (7 * (i : Int)) (by omega), uw (7 * (i : Int)) (by omega)]
  unfold shl
  have e1 : min (7 * (i : Int)).toNat IntKind.u64.bits = 7 * i := by simp [IntKind.bits]; omega
  rw [e1, pow7]
  obtain ⟨m, rfl⟩ := Int.eq_ofNat_of_zero_le hn.1
  obtain ⟨d, hd⟩ := Int.eq_ofNat_of_zero_le (show 0 ≤ c % 128 by omega)
  rw [hd]
  have hp := pow_le i hi
  have hm : m < 128 ^ i := by
    have := hn.2
    have q : ((128 ^ i : Nat) : Int) = (128 : Int) ^ i := by simp
    omega
  have hq : ((d * 128 ^ i : Nat) : Int) = (d : Int) * 128 ^ i := by simp
  have hy : d * 128 ^ i < 18446744073709551616 := by
    by_cases h : i = 9
    · have := h9 h
      have hd1 : d ≤ 1 := by omega
      have : d * 128 ^ i ≤ 1 * 128 ^ i := Nat.mul_le_mul_right _ hd1
      omega
    · have h8 : (128 : Nat) ^ i ≤ 128 ^ 8 := Nat.pow_le_pow_right (by decide) (by omega)
      have e8 : (128 : Nat) ^ 8 = 72057594037927936 := by decide
      have : d * 128 ^ i ≤ 127 * 72057594037927936 := Nat.mul_le_mul (by omega) (by omega)
      omega
  rw [← hq, uw _ (by omega)]
  exact or_join m (d * 128 ^ i) (7 * i) (by rw [pow7n]; exact hm) (by rw [pow7n]; exact Nat.mul_mod_left _ _) (by omega) (by omega)
theorem rd_drop_bt (s : ByteArray) (a : Nat) (h : a < s.size) : (bytesOf s).drop a = bt s (a : Int) :: (bytesOf s).drop (a + 1) := by
  rw [drop_cons _ a (by rw [bytesOf_length]; exact h), rd_bytesOf]
theorem take_loop (s : ByteArray) (hs : s.size ≤ 140737488351232) (a d : Nat) : ∀ (i : Nat) (n : Int), i + d = 10 → a + i ≤ s.size → 0 ≤ n → n < 128 ^ i →
    Ev (fun k => pack_TakeNumber.l0 k s (a : Int) n (i : Int)) (rel (a : Int) (tnS ((bytesOf s).drop (a + i)) i n)) := by
  induction d with
  | zero =>
    intro i n hi ha h0 h1
    refine Ev.step (f := fun _ => some (0, 0, 11)) (fun k => ?_) ?_
    · simp only [pack_TakeNumber.l0]
      rw [if_neg (by omega)]
    · have : rel (a : Int) (tnS ((bytesOf s).drop (a + i)) i n) = (0, 0, 11) := by
        cases (bytesOf s).drop (a + i) with
        | nil => rw [tnS_nil, if_neg (by omega), rel_err _ _ (by decide)]
        | cons c l => rw [tnS_cons, if_pos (by omega), rel_err _ _ (by decide)]
      rw [this]
      exact Ev.now _
  | succ d ih =>
    intro i n hi ha h0 h1
    have w1 : wrap64 ((a : Int) + (i : Int)) = ((a + i : Nat) : Int) := by unfold wrap64; omega
    have w2 : wrap64 ((i : Int) + 1) = ((i + 1 : Nat) : Int) := by unfold wrap64; omega
    have hz : IntKind.u64.wrap (wrap64 (7 * (i : Int))) = 7 * (i : Int) := by rw [wr _ (by omega), uw _ (by omega)]
    by_cases c0 : a + i = s.size
    · refine Ev.step (f := fun _ => some (0, 0, 10)) (fun k => ?_) ?_
      · simp only [pack_TakeNumber.l0]
        rw [if_pos (by omega), w1, if_pos (by omega)]
      · rw [List.drop_eq_nil_of_le (by rw [bytesOf_length]; omega)]
        rw [tnS_nil, if_pos (by omega), rel_err _ _ (by decide)]
        exact Ev.now _
    · have hb := bt_range s ((a + i : Nat) : Int)
      rw [rd_drop_bt s (a + i) (by omega)]
      obtain ⟨c, hc⟩ : ∃ c, bt s ((a + i : Nat) : Int) = c := ⟨_, rfl⟩
      rw [hc] at hb ⊢
      have head : ∀ k, pack_TakeNumber.l0 (k + 1) s (a : Int) n (i : Int) = pack_TakeNumber.j2 k s (a : Int) n (i : Int) c (i : Int) (decide (i = 9 ∧ c > 1)) := fun k => by
        simp only [pack_TakeNumber.l0]
        rw [if_pos (by omega), w1, if_neg (by omega), if_pos (by omega), if_pos (by omega), hc]
        by_cases h9 : i = 9
        · rw [if_pos (by omega)]
          congr 1
          simp [h9]
        · rw [if_neg (by omega)]
          congr 1
          simp [h9]
      by_cases c1 : i = 9 ∧ c > 1
      · refine ev_shift 2 (f := fun _ => some (0, 0, 11)) (fun k => ?_) ?_
        · rw [head, decide_eq_true c1, pack_TakeNumber.j2, if_pos rfl]
        · rw [tnS_cons, if_neg (by omega), if_pos c1, rel_err _ _ (by decide)]
          exact Ev.now _
      · have hm := or_more n c i (by omega) ⟨h0, h1⟩ ⟨hb.1, by omega⟩ (fun h => by omega)
        by_cases c2 : c ≥ 128
        · have hlt : n + c % 128 * 128 ^ i < 128 ^ (i + 1) := by
            have p0 : (0 : Int) ≤ 128 ^ i := by omega
            have : c % 128 * 128 ^ i ≤ 127 * 128 ^ i := Int.mul_le_mul_of_nonneg_right (by omega) p0
            rw [Int.pow_succ]
            omega
          have hge : 0 ≤ n + c % 128 * 128 ^ i := by
            have p0 : (0 : Int) ≤ 128 ^ i := by omega
            have : 0 ≤ c % 128 * 128 ^ i := Int.mul_nonneg (by omega) p0
            omega
          have := ih (i + 1) (n + c % 128 * 128 ^ i) (by omega) (by omega) hge hlt
          rw [tnS_cons, if_neg (by omega), if_neg c1, if_pos c2]
          refine ev_shift 2 (fun k => ?_) this
          rw [head, decide_eq_false c1, pack_TakeNumber.j2, if_neg (by simp), hz, if_pos (by omega), if_pos c2, ← hz, hm, w2]
        · have h128 : c % 128 = c := by omega
          rw [h128] at hm
          rw [tnS_cons, if_neg (by omega), if_neg c1, if_neg c2]
          by_cases c3 : c = 0 ∧ i > 0
          · rw [if_pos c3, rel_err _ _ (by decide)]
            refine ev_shift 2 (f := fun _ => some (0, 0, 11)) (fun k => ?_) (Ev.now _)
            rw [head, decide_eq_false c1, pack_TakeNumber.j2, if_neg (by simp), hz, if_pos (by omega), if_neg c2, if_pos c3.1, if_pos (by omega)]
          · rw [if_neg c3, rel_ok]
            have w3 : wrap64 ((wrap64 ((a : Int) + (i : Int))) + 1) = (a : Int) + ((i : Int) + 1) := by rw [w1]; unfold wrap64; omega
            refine ev_shift 2 (f := fun _ => some (n + c * 128 ^ i, (a : Int) + ((i : Int) + 1), 0)) (fun k => ?_) ?_
            · rw [head, decide_eq_false c1, pack_TakeNumber.j2, if_neg (by simp), if_pos (by rw [hz]; omega), if_neg c2, hm, w3]
              by_cases c4 : c = 0
              · rw [if_pos c4, if_neg (by omega)]
              · rw [if_neg c4]
            · exact Ev.now _
theorem take_ev (s : ByteArray) (hs : s.size ≤ 140737488351232) (a : Int) : Ev (fun k => pack_TakeNumber.f k s a) (TN s a) := by
  have bad : Ev (fun k => pack_TakeNumber.j0 k s a true) (0, 0, 2) := Ev.step (f := fun _ => some (0, 0, 2)) (fun k => by simp only [pack_TakeNumber.j0, if_true]) (Ev.now _)
  by_cases c1 : a < 0
  · have : TN s a = (0, 0, 2) := if_pos (.inl c1)
    rw [this]
    exact Ev.congr (fun k => by unfold pack_TakeNumber.f; rw [if_pos c1]) bad
  by_cases c2 : a > (s.size : Int)
  · have : TN s a = (0, 0, 2) := if_pos (.inr c2)
    rw [this]
    exact Ev.congr (fun k => by unfold pack_TakeNumber.f; rw [if_neg c1, decide_eq_true c2]) bad
  obtain ⟨m, rfl⟩ := Int.eq_ofNat_of_zero_le (show 0 ≤ a by omega)
  have : TN s (m : Int) = rel (m : Int) (tnS ((bytesOf s).drop (m + 0)) 0 0) := if_neg (by omega)
  rw [this]
  refine Ev.congr (f := fun k => pack_TakeNumber.j0 k s (m : Int) false) (fun k => by unfold pack_TakeNumber.f; rw [if_neg c1, decide_eq_false c2]) ?_
  refine Ev.step (fun k => ?_) (take_loop s hs m 10 0 0 (by omega) (by omega) (by omega) (by decide))
  simp only [pack_TakeNumber.j0, Bool.false_eq_true, if_false]
  rfl
theorem tn_facts (s : ByteArray) (hs : s.size ≤ 140737488351232) (a : Int) : (TN s a).2.2 ≠ 0 ∧ (TN s a).1 = 0 ∧ (TN s a).2.1 = 0 ∨ (TN s a).2.2 = 0 ∧ 0 ≤ (TN s a).1 ∧ (TN s a).1 < 18446744073709551616 ∧ 0 ≤ a ∧ a < (TN s a).2.1 ∧ (TN s a).2.1 ≤ (s.size : Int) := by
  by_cases c : a < 0 ∨ a > (s.size : Int)
  · have : TN s a = (0, 0, 2) := if_pos c
    rw [this]; left; simp
  · have e : TN s a = rel a (tnS ((bytesOf s).drop a.toNat) 0 0) := if_neg c
    rw [e]
    rcases tnS_err ((bytesOf s).drop a.toNat) 0 0 with h | ⟨h1, h2, h3⟩
    · right
      obtain ⟨m, r, h4, h5, h6, h7, h8⟩ := tnS_ok _ (fun x hx => bytesOf_byte s x (List.mem_of_mem_drop hx)) h
      rw [h7]
      have hl := congrArg List.length h4
      rw [List.length_drop, bytesOf_length, List.length_append] at hl
      have hp : 1 ≤ m.length := by
        match m, h5 with
        | [], h5 => exact absurd h5 (by simp [Canon])
        | x :: m, _ => simp
      have hv := valS_nonneg m
      rw [rel_ok]
      exact ⟨rfl, hv, h8, by show 0 ≤ a; omega, by show a < a + (m.length : Int); omega, by show a + (m.length : Int) ≤ _; omega⟩
    · left
      have h4 : (tnS ((bytesOf s).drop a.toNat) 0 0).2.2 ≠ 0 := by omega
      exact ⟨h4, h1, if_neg h4⟩
/-! Frames: what Seal makes, what Open tells. -/
abbrev E0 : ByteArray := ⟨#[]⟩
def eightS (n : Int) : List Int := [n % 256, n / 256 % 256, n / 65536 % 256, n / 16777216 % 256, n / 4294967296 % 256, n / 1099511627776 % 256, n / 281474976710656 % 256, n / 72057594037927936 % 256]
theorem eightS_byte (n : Int) : ∀ x ∈ eightS n, Byte x := by
  intro x hx
  unfold eightS at hx
  simp only [List.mem_cons, List.not_mem_nil, or_false] at hx
  unfold Byte
  omega
def eightB (n : Int) : ByteArray := strOfNums (eightS n)
theorem eightB_bytes (n : Int) : bytesOf (eightB n) = eightS n := bytesOf_nums _ (eightS_byte n)
theorem eightB_size (n : Int) : (eightB n).size = 8 := by rw [← size_bytesOf, eightB_bytes]; rfl
/-- A frame without its sum. -/
def hdB (v : Int) (body : ByteArray) : ByteArray := strOfNums [231, v % 256] ++ Tx body
theorem hd_two (v : Int) : bytesOf (strOfNums [231, v % 256]) = [231, v % 256] := by
  refine bytesOf_nums _ (fun x hx => ?_)
  simp only [List.mem_cons, List.not_mem_nil, or_false] at hx
  unfold Byte
  omega
theorem hd_bytes (v : Int) (body : ByteArray) : bytesOf (hdB v body) = 231 :: v % 256 :: (numS body.size ++ bytesOf body) := by
  unfold hdB Tx
  rw [bytesOf_append, bytesOf_append, hd_two, nm_bytes, Int.toNat_natCast]
  rfl
theorem two_size (v : Int) : (strOfNums [231, v % 256]).size = 2 := by rw [← size_bytesOf, hd_two]; rfl
theorem hd_size (v : Int) (body : ByteArray) (h : body.size ≤ 140737488351232) : (hdB v body).size ≤ body.size + 12 := by
  unfold hdB
  rw [size_app, two_size]
  have := tx_size body h
  omega
def SEAL (v : Int) (body : ByteArray) : ByteArray × Int :=
  if v < 0 ∨ v > 255 then (E0, 2) else if (body.size : Int) > 30000 then (E0, 3) else (hdB v body ++ eightB (sumS (bytesOf (hdB v body))), 0)
theorem cat_one (s : ByteArray) : cat [s] = s := by simp only [cat]; exact app_empty s
theorem seal_ev (v : Int) (body : ByteArray) : Ev (fun k => seal_Seal.f k v body) (SEAL v body) := by
  have bad : Ev (fun k => seal_Seal.j0 k v body true) (E0, 2) := Ev.step (f := fun _ => some (E0, 2)) (fun k => by rw [seal_Seal.j0, if_pos rfl]) (Ev.now _)
  unfold seal_Seal.f SEAL
  by_cases c1 : v < 0
  · rw [if_pos (.inl c1)]
    exact Ev.congr (fun k => if_pos c1) bad
  · refine Ev.congr (fun k => if_neg c1) ?_
    by_cases c2 : v > 255
    · rw [if_pos (.inr c2), decide_eq_true c2]
      exact bad
    · rw [if_neg (by omega), decide_eq_false c2]
      by_cases c3 : (body.size : Int) > 30000
      · rw [if_pos c3]
        exact Ev.step (f := fun _ => some (E0, 3)) (fun k => by rw [seal_Seal.j0, if_neg (by decide), if_pos c3]) (Ev.now _)
      · rw [if_neg c3]
        have ht := tx_size body (by omega)
        have h2 := two_size v
        have hh := hd_size v body (by omega)
        refine Ev.step (fun k => by rw [seal_Seal.j0, if_neg (by decide), if_neg c3]) ?_
        simp only [Option.bind_some]
        refine Ev.bind (text_ev body (by omega)) ?_
        refine Ev.congr (fun k => if_pos (by omega)) ?_
        have hs := sum_ev [hdB v body] (fun s hs => by rw [List.mem_singleton] at hs; subst hs; omega) (by simp)
        rw [cat_one] at hs
        refine Ev.bind hs ?_
        have h8 : seal_eight.f (sumS (bytesOf (hdB v body))) = some (eightB (sumS (bytesOf (hdB v body)))) := rfl
        have h9 := eightB_size (sumS (bytesOf (hdB v body)))
        have hx : (strOfNums [231, v % 256] ++ Tx body).size ≤ body.size + 12 := hh
        refine Ev.congr (f := fun _ => some (hdB v body ++ eightB (sumS (bytesOf (hdB v body))), 0)) (fun k => ?_) (Ev.now _)
        rw [h8, Option.bind_some, if_pos (by omega)]
        rfl
/-- What Open tells. -/
def OP (s : ByteArray) (a v : Int) : ByteArray × Int × Int :=
  if a < 0 ∨ a > (s.size : Int) ∨ v < 0 ∨ v > 255 then (E0, 0, 2)
  else if a = (s.size : Int) then (E0, 0, 10)
  else if bt s a = 231 then
    if a + 1 = (s.size : Int) then (E0, 0, 10)
    else if bt s (a + 1) = v then
      if (TN s (a + 2)).2.2 = 0 then
        if (TN s (a + 2)).1 > 30000 then (E0, 0, 3)
        else if (TN s (a + 2)).1 + 8 > (s.size : Int) - (TN s (a + 2)).2.1 then (E0, 0, 10)
        else if eightB (sumS (bytesOf (s.extract a.toNat ((TN s (a + 2)).2.1 + (TN s (a + 2)).1).toNat))) = s.extract ((TN s (a + 2)).2.1 + (TN s (a + 2)).1).toNat ((TN s (a + 2)).2.1 + (TN s (a + 2)).1 + 8).toNat
        then (s.extract (TN s (a + 2)).2.1.toNat ((TN s (a + 2)).2.1 + (TN s (a + 2)).1).toNat, (TN s (a + 2)).2.1 + (TN s (a + 2)).1 + 8, 0) else (E0, 0, 22)
      else (E0, 0, (TN s (a + 2)).2.2)
    else (E0, 0, 21)
  else (E0, 0, 20)
theorem extract_size (s : ByteArray) (a b : Nat) : (s.extract a b).size ≤ s.size := by
  rw [← size_bytesOf, bytesOf_extract, List.length_drop, List.length_take, size_bytesOf]
  omega
theorem open_ev (s : ByteArray) (hs : s.size ≤ 1000000000) (a v : Int) : Ev (fun k => seal_Open.f k s a v) (OP s a v) := by
  have bad : Ev (fun k => seal_Open.j0 k s a v true) (E0, 0, 2) := Ev.step (f := fun _ => some (E0, 0, 2)) (fun k => by rw [seal_Open.j0, if_pos rfl]) (Ev.now _)
  unfold seal_Open.f
  by_cases c1 : a < 0
  · rw [show OP s a v = (E0, 0, 2) from if_pos (.inl c1)]
    exact Ev.congr (fun k => if_pos c1) bad
  refine Ev.congr (fun k => if_neg c1) ?_
  by_cases c2 : a > (s.size : Int)
  · rw [show OP s a v = (E0, 0, 2) from if_pos (.inr (.inl c2))]
    exact Ev.congr (fun k => if_pos c2) bad
  refine Ev.congr (fun k => if_neg c2) ?_
  by_cases c3 : v < 0
  · rw [show OP s a v = (E0, 0, 2) from if_pos (.inr (.inr (.inl c3)))]
    exact Ev.congr (fun k => if_pos c3) bad
  refine Ev.congr (fun k => if_neg c3) ?_
  by_cases c4 : v > 255
  · rw [show OP s a v = (E0, 0, 2) from if_pos (.inr (.inr (.inr c4))), decide_eq_true c4]
    exact bad
  rw [decide_eq_false c4]
  unfold OP
  rw [if_neg (by omega)]
  refine Ev.step (fun k => by rw [seal_Open.j0, if_neg (by decide)]) ?_
  by_cases c5 : a = (s.size : Int)
  · rw [if_pos c5]
    exact Ev.congr (fun k => if_pos c5) (Ev.now _)
  rw [if_neg c5]
  refine Ev.congr (fun k => by rw [if_neg c5, if_pos (by omega), if_pos (by omega)]) ?_
  by_cases c6 : bt s a = 231
  · rw [if_pos c6]
    refine Ev.congr (fun k => if_pos c6) ?_
    have w1 : wrap64 (a + 1) = a + 1 := wr _ (by omega)
    have w2 : wrap64 (a + 2) = a + 2 := wr _ (by omega)
    rw [w1, w2]
    by_cases c7 : a + 1 = (s.size : Int)
    · rw [if_pos c7]
      exact Ev.congr (fun k => if_pos c7) (Ev.now _)
    rw [if_neg c7]
    have hb := bt_range s (a + 1)
    rw [wr (bt s (a + 1)) (by omega)]
    refine Ev.congr (fun k => by rw [if_neg c7, if_pos (by omega), if_pos (by omega)]) ?_
    by_cases c8 : bt s (a + 1) = v
    · rw [if_pos c8]
      refine Ev.congr (fun k => if_pos c8) ?_
      refine Ev.bind (take_ev s (by omega) (a + 2)) ?_
      by_cases c9 : (TN s (a + 2)).2.2 = 0
      · rw [if_pos c9]
        refine Ev.congr (fun k => if_pos c9) ?_
        have hf := tn_facts s (by omega) (a + 2)
        rcases hf with hf | ⟨_, f1, f2, f3, f4, f5⟩
        · exact absurd c9 hf.1
        by_cases c10 : (TN s (a + 2)).1 > 30000
        · rw [if_pos c10]
          exact Ev.congr (fun k => if_pos c10) (Ev.now _)
        rw [if_neg c10]
        refine Ev.congr (fun k => if_neg c10) ?_
        rw [wr (TN s (a + 2)).1 (by omega), wr ((TN s (a + 2)).1 + 8) (by omega), wr ((s.size : Int) - (TN s (a + 2)).2.1) (by omega)]
        by_cases c11 : (TN s (a + 2)).1 + 8 > (s.size : Int) - (TN s (a + 2)).2.1
        · rw [if_pos c11]
          exact Ev.congr (fun k => if_pos c11) (Ev.now _)
        rw [if_neg c11]
        rw [wr ((TN s (a + 2)).2.1 + (TN s (a + 2)).1) (by omega), wr ((TN s (a + 2)).2.1 + (TN s (a + 2)).1 + 8) (by omega)]
        refine Ev.congr (fun k => by rw [if_neg c11, if_pos (by omega), if_pos (by omega)]) ?_
        have hsz := extract_size s a.toNat ((TN s (a + 2)).2.1 + (TN s (a + 2)).1).toNat
        have hsum := sum_ev [s.extract a.toNat ((TN s (a + 2)).2.1 + (TN s (a + 2)).1).toNat] (fun t ht => by rw [List.mem_singleton] at ht; subst ht; omega) (by simp)
        rw [cat_one] at hsum
        refine Ev.bind hsum ?_
        have h8 : ∀ n, seal_eight.f n = some (eightB n) := fun _ => rfl
        simp only [h8, Option.bind_some]
        refine Ev.congr (fun k => by rw [if_pos (by omega), if_pos (by omega), if_pos (by omega)]) ?_
        by_cases c12 : eightB (sumS (bytesOf (s.extract a.toNat ((TN s (a + 2)).2.1 + (TN s (a + 2)).1).toNat))) = s.extract ((TN s (a + 2)).2.1 + (TN s (a + 2)).1).toNat ((TN s (a + 2)).2.1 + (TN s (a + 2)).1 + 8).toNat
        · rw [if_pos c12]
          exact Ev.congr (fun k => by rw [if_pos (toList_iff.2 c12), if_pos (by omega), if_pos (by omega)]) (Ev.now _)
        · rw [if_neg c12]
          exact Ev.congr (fun k => if_neg (fun h => c12 (toList_iff.1 h))) (Ev.now _)
      · rw [if_neg c9]
        exact Ev.congr (fun k => if_neg c9) (Ev.now _)
    · rw [if_neg c8]
      exact Ev.congr (fun k => if_neg c8) (Ev.now _)
  · rw [if_neg c6]
    exact Ev.congr (fun k => if_neg c6) (Ev.now _)
/-! tests and rounds -/
theorem ev_ite {α : Type} {c : Prop} [Decidable c] {f g : Nat → Option α} {r : α} (h1 : c → Ev f r) (h2 : ¬ c → Ev g r) : Ev (fun k => if c then f k else g k) r := by
  by_cases hc : c
  · exact Ev.congr (fun k => if_pos hc) (h1 hc)
  · exact Ev.congr (fun k => if_neg hc) (h2 hc)
theorem ev_pos {α : Type} {c : Prop} [Decidable c] {f g : Nat → Option α} {r : α} (hc : c) (h1 : Ev f r) : Ev (fun k => if c then f k else g k) r := Ev.congr (fun k => if_pos hc) h1
theorem ev_neg {α : Type} {c : Prop} [Decidable c] {f g : Nat → Option α} {r : α} (hc : ¬ c) (h2 : Ev g r) : Ev (fun k => if c then f k else g k) r := Ev.congr (fun k => if_neg hc) h2
theorem ev_eq {α : Type} {f : Nat → Option α} {r r' : α} (h : Ev f r) (e : r = r') : Ev f r' := e ▸ h
/-! Frames, as lists of bytes: where one stands, Open tells it; and of what Open tells a frame stood there. -/
def VOK (v : Int) : Prop := 0 ≤ v ∧ v ≤ 255
/-- A frame's bytes. -/
def frB (v : Int) (body : ByteArray) : List Int := (231 :: v :: (numS body.size ++ bytesOf body)) ++ eightS (sumS (231 :: v :: (numS body.size ++ bytesOf body)))
def FR (v : Int) (body : ByteArray) : ByteArray := hdB v body ++ eightB (sumS (bytesOf (hdB v body)))
theorem hd_ok (v : Int) (hv : VOK v) (body : ByteArray) : bytesOf (hdB v body) = 231 :: v :: (numS body.size ++ bytesOf body) := by
  rw [hd_bytes, Int.emod_eq_of_lt hv.1 (by have := hv.2; omega)]
theorem fr_bytes (v : Int) (hv : VOK v) (body : ByteArray) : bytesOf (FR v body) = frB v body := by
  unfold FR frB
  rw [bytesOf_append, eightB_bytes, hd_ok v hv]
theorem frB_len (v : Int) (body : ByteArray) : (frB v body).length = 10 + (numS body.size).length + body.size := by
  unfold frB eightS
  simp [size_bytesOf]
  omega
theorem seal_ok (v : Int) (hv : VOK v) (body : ByteArray) (hb : (body.size : Int) ≤ 30000) : SEAL v body = (FR v body, 0) := by
  unfold SEAL
  have := hv.1
  have := hv.2
  rw [if_neg (by omega), if_neg (by omega)]
  rfl
theorem seal_bad (v : Int) (body : ByteArray) (h : ¬ (VOK v ∧ (body.size : Int) ≤ 30000)) : (SEAL v body).2 ≠ 0 := by
  unfold SEAL
  by_cases c : v < 0 ∨ v > 255
  · rw [if_pos c]
    decide
  · rw [if_neg c]
    have : (body.size : Int) > 30000 := by
      unfold VOK at h
      omega
    rw [if_pos this]
    decide
theorem bt_drop (s : ByteArray) (a : Nat) (l : List Int) (h : (bytesOf s).drop a = l) (i : Nat) (hi : i < l.length) : bt s ((a : Int) + (i : Int)) = l[i] := by
  have hl : l.length = s.size - a := by rw [← h, List.length_drop, size_bytesOf]
  have e : ((a : Int) + (i : Int)) = ((a + i : Nat) : Int) := by omega
  rw [e, bt_nat s (a + i) (by omega)]
  subst h
  rw [List.getElem_drop]
theorem tn_drop (s : ByteArray) (a : Nat) (l : List Int) (h : (bytesOf s).drop a = l) (hl : 2 ≤ l.length) : TN s ((a : Int) + 2) = ((tnS (l.drop 2) 0 0).1, (if (tnS (l.drop 2) 0 0).2.2 = 0 then (a : Int) + 2 + (tnS (l.drop 2) 0 0).2.1 else 0), (tnS (l.drop 2) 0 0).2.2) := by
  have hs : l.length = s.size - a := by rw [← h, List.length_drop, size_bytesOf]
  unfold TN
  rw [if_neg (by omega), show ((a : Int) + 2).toNat = a + 2 from by omega, ← h, List.drop_drop]
theorem ext_bytes (s : ByteArray) (a b n : Nat) (l : List Int) (h : (bytesOf s).drop a = l) (hb : b = a + n) : bytesOf (s.extract a b) = l.take n := by
  rw [bytesOf_extract, hb, List.drop_take, h]
  congr 1
  omega
theorem op_frame (s : ByteArray) (a : Nat) (v : Int) (hv : VOK v) (body : ByteArray) (hb : body.size ≤ 30000) (r : List Int) (h : (bytesOf s).drop a = frB v body ++ r) :
    OP s (a : Int) v = (body, (a : Int) + (frB v body).length, 0) := by
  have hfl := frB_len v body
  have hs : (frB v body ++ r).length = s.size - a := by rw [← h, List.length_drop, size_bytesOf]
  rw [List.length_append] at hs
  have hv0 := hv.1
  have hv1 := hv.2
  have hL : frB v body ++ r = 231 :: v :: (numS body.size ++ (bytesOf body ++ (eightS (sumS (231 :: v :: (numS body.size ++ bytesOf body))) ++ r))) := by
    unfold frB
    simp
  have h0 : bt s (a : Int) = 231 := by
    have := bt_drop s a _ h 0 (by rw [List.length_append]; omega)
    rw [show ((a : Int) + ((0 : Nat) : Int)) = (a : Int) by omega] at this
    rw [this]
    simp only [hL, List.getElem_cons_zero]
  have h1 : bt s ((a : Int) + 1) = v := by
    have := bt_drop s a _ h 1 (by rw [List.length_append]; omega)
    rw [show ((a : Int) + ((1 : Nat) : Int)) = (a : Int) + 1 by omega] at this
    rw [this]
    simp only [hL, List.getElem_cons_succ, List.getElem_cons_zero]
  have hd2 : (frB v body ++ r).drop 2 = numS body.size ++ (bytesOf body ++ (eightS (sumS (231 :: v :: (numS body.size ++ bytesOf body))) ++ r)) := by rw [hL]; rfl
  have hT := tn_drop s a _ h (by rw [List.length_append]; omega)
  rw [hd2, tnS_canon _ _ (canon_numS body.size) (by rw [valS_numS]; omega), valS_numS] at hT
  simp only [if_pos] at hT
  have e8 : (eightS (sumS (231 :: v :: (numS body.size ++ bytesOf body)))).length = 8 := rfl
  have x1 : bytesOf (s.extract a (a + (2 + (numS body.size).length + body.size))) = 231 :: v :: (numS body.size ++ bytesOf body) := by
    rw [ext_bytes s a _ _ _ h rfl]
    unfold frB
    rw [List.append_assoc, List.take_append_of_le_length (by simp [size_bytesOf]; omega), List.take_of_length_le (by simp [size_bytesOf]; omega)]
  have x2 : bytesOf (s.extract (a + (2 + (numS body.size).length + body.size)) (a + (2 + (numS body.size).length + body.size) + 8)) = eightS (sumS (231 :: v :: (numS body.size ++ bytesOf body))) := by
    have hd : (bytesOf s).drop (a + (2 + (numS body.size).length + body.size)) = eightS (sumS (231 :: v :: (numS body.size ++ bytesOf body))) ++ r := by
      rw [← List.drop_drop, h]
      unfold frB
      rw [List.append_assoc, List.drop_append_of_le_length (by simp [size_bytesOf]; omega), List.drop_of_length_le (by simp [size_bytesOf]; omega)]
      rfl
    rw [ext_bytes s _ _ 8 _ hd rfl, List.take_append_of_le_length (by omega), List.take_of_length_le (by omega)]
  have x3 : s.extract (a + (2 + (numS body.size).length)) (a + (2 + (numS body.size).length + body.size)) = body := by
    apply bytesOf_inj
    have hd : (bytesOf s).drop (a + (2 + (numS body.size).length)) = bytesOf body ++ (eightS (sumS (231 :: v :: (numS body.size ++ bytesOf body))) ++ r) := by
      rw [← List.drop_drop, h, hL, show 231 :: v :: (numS body.size ++ (bytesOf body ++ (eightS (sumS (231 :: v :: (numS body.size ++ bytesOf body))) ++ r))) = (231 :: v :: numS body.size) ++ (bytesOf body ++ (eightS (sumS (231 :: v :: (numS body.size ++ bytesOf body))) ++ r)) from rfl,
        List.drop_append_of_le_length (by simp; omega), List.drop_of_length_le (by simp; omega)]
      rfl
    rw [ext_bytes s _ _ body.size _ hd (by omega), List.take_append_of_le_length (by rw [size_bytesOf]; omega), List.take_of_length_le (by rw [size_bytesOf]; omega)]
  unfold OP
  rw [if_neg (by omega), if_neg (by omega), h0, if_pos rfl, if_neg (by omega), h1, if_pos rfl, hT]
  simp only
  rw [if_pos trivial, if_neg (by omega), if_neg (by omega)]
  have n1 : ((a : Int) + 2 + ((numS body.size).length : Int) + (body.size : Int)).toNat = a + (2 + (numS body.size).length + body.size) := by omega
  have n2 : ((a : Int) + 2 + ((numS body.size).length : Int) + (body.size : Int) + 8).toNat = a + (2 + (numS body.size).length + body.size) + 8 := by omega
  have n3 : ((a : Int) + 2 + ((numS body.size).length : Int)).toNat = a + (2 + (numS body.size).length) := by omega
  rw [n1, n2, n3, Int.toNat_natCast, x1, x3]
  rw [if_pos (bytesOf_inj (by rw [eightB_bytes, x2]))]
  rw [hfl]
  simp only [Prod.mk.injEq, true_and, and_true]
  omega
/-- A beginning of a frame, but not all of it. -/
theorem op_short (s : ByteArray) (a : Nat) (ha : a ≤ s.size) (v : Int) (hv : VOK v) (body : ByteArray) (hb : body.size ≤ 30000) (q t : List Int) (h : (bytesOf s).drop a = q) (hq : q ++ t = frB v body) (ht : t ≠ []) :
    OP s (a : Int) v = (E0, 0, 10) := by
  have hfl := frB_len v body
  have hs : q.length = s.size - a := by rw [← h, List.length_drop, size_bytesOf]
  have hql : q.length < (frB v body).length := by
    rw [← hq, List.length_append]
    have := List.length_pos_iff.2 ht
    omega
  have hv0 := hv.1
  have hv1 := hv.2
  unfold OP
  rw [if_neg (by omega)]
  rcases q with _ | ⟨q0, q⟩
  · rw [if_pos (by simp at hs; omega)]
  have hF : frB v body = 231 :: v :: (numS body.size ++ (bytesOf body ++ eightS (sumS (231 :: v :: (numS body.size ++ bytesOf body))))) := by
    unfold frB
    simp
  rw [hF] at hq
  have hq0 : q0 = 231 := by
    have := congrArg List.head? hq
    simpa using this
  subst hq0
  have h0 : bt s (a : Int) = 231 := by
    have := bt_drop s a _ h 0 (by simp)
    rw [show ((a : Int) + ((0 : Nat) : Int)) = (a : Int) by omega] at this
    exact this
  simp only [List.length_cons] at hs
  rw [if_neg (by omega), h0, if_pos rfl]
  rcases q with _ | ⟨q1, q⟩
  · simp at hs
    rw [if_pos (by omega)]
  simp only [List.length_cons] at hs
  have hq1 : q1 = v := by
    have := congrArg (fun l : List Int => l[1]?) hq
    simpa using this
  subst hq1
  have h1 : bt s ((a : Int) + 1) = q1 := by
    have := bt_drop s a _ h 1 (by simp)
    rw [show ((a : Int) + ((1 : Nat) : Int)) = (a : Int) + 1 by omega] at this
    exact this
  rw [if_neg (by omega), h1, if_pos rfl]
  have hT := tn_drop s a _ h (by simp)
  have hd2 : (231 :: q1 :: q : List Int).drop 2 = q := rfl
  rw [hd2] at hT
  have hq2 : q ++ t = numS body.size ++ (bytesOf body ++ eightS (sumS (231 :: q1 :: (numS body.size ++ bytesOf body)))) := by simpa using hq
  have h10 := numS_ten body.size (by omega)
  by_cases c : q.length < (numS body.size).length
  · have e : numS body.size = q ++ (numS body.size).drop q.length := by
      have e1 := congrArg (List.take q.length) hq2
      rw [List.take_append_of_le_length (Nat.le_refl _), List.take_length, List.take_append_of_le_length (by omega)] at e1
      conv => lhs; rw [← List.take_append_drop q.length (numS body.size)]
      rw [← e1]
    rw [tnS_short (numS body.size) q (canon_numS _) h10 _ (by
      intro e2
      have := congrArg List.length e2
      simp at this
      omega) e] at hT
    rw [hT]
    simp
  · have e : q = numS body.size ++ q.drop (numS body.size).length := by
      have e1 := congrArg (List.take (numS body.size).length) hq2
      rw [List.take_append_of_le_length (by omega), List.take_append_of_le_length (Nat.le_refl _), List.take_length] at e1
      conv => lhs; rw [← List.take_append_drop (numS body.size).length q]
      rw [e1]
    rw [e, tnS_canon _ _ (canon_numS body.size) (by rw [valS_numS]; omega), valS_numS] at hT
    simp only [if_pos] at hT
    rw [hT]
    simp only
    rw [if_pos trivial, if_neg (by omega), if_pos]
    have hlen := congrArg List.length hq2
    have := List.length_pos_iff.2 ht
    have e8 : (eightS (sumS (231 :: q1 :: (numS body.size ++ bytesOf body)))).length = 8 := rfl
    simp only [List.length_append, size_bytesOf, e8] at hlen
    omega
/-- What Open tells stood there. -/
theorem op_ok (s : ByteArray) (a v : Int) (b : ByteArray) (q : Int) (h : OP s a v = (b, q, 0)) :
    VOK v ∧ 0 ≤ a ∧ b.size ≤ 30000 ∧ (bytesOf s).drop a.toNat = frB v b ++ (bytesOf s).drop q.toNat ∧ q = a + (frB v b).length ∧ q ≤ (s.size : Int) := by
  unfold OP at h
  by_cases c0 : a < 0 ∨ a > (s.size : Int) ∨ v < 0 ∨ v > 255
  · rw [if_pos c0] at h
    simp at h
  rw [if_neg c0] at h
  obtain ⟨a, rfl⟩ : ∃ n : Nat, a = (n : Int) := ⟨a.toNat, by omega⟩
  rw [Int.toNat_natCast] at h ⊢
  by_cases c1 : (a : Int) = (s.size : Int)
  · rw [if_pos c1] at h
    simp at h
  rw [if_neg c1] at h
  by_cases c2 : bt s (a : Int) = 231
  rotate_left
  · rw [if_neg c2] at h
    simp at h
  rw [if_pos c2] at h
  by_cases c3 : (a : Int) + 1 = (s.size : Int)
  · rw [if_pos c3] at h
    simp at h
  rw [if_neg c3] at h
  by_cases c4 : bt s ((a : Int) + 1) = v
  rotate_left
  · rw [if_neg c4] at h
    simp at h
  rw [if_pos c4] at h
  obtain ⟨l, hl⟩ : ∃ l, (bytesOf s).drop a = l := ⟨_, rfl⟩
  have hs : l.length = s.size - a := by rw [← hl, List.length_drop, size_bytesOf]
  have hT := tn_drop s a l hl (by omega)
  rw [hT] at h
  simp only at h
  by_cases c5 : (tnS (l.drop 2) 0 0).2.2 = 0
  rotate_left
  · rw [if_neg c5] at h
    simp only [Prod.mk.injEq] at h
    exact absurd h.2.2 c5
  rw [if_pos c5, if_pos c5] at h
  have hbl : ∀ x ∈ l.drop 2, Byte x := fun x hx => bytesOf_byte s x (List.mem_of_mem_drop (by rw [hl]; exact List.mem_of_mem_drop hx))
  obtain ⟨m, r, em, hm, hm10, et, hval⟩ := tnS_ok (l.drop 2) hbl c5
  rw [et] at h
  simp only at h
  by_cases c6 : valS m > 30000
  · rw [if_pos c6] at h
    simp at h
  rw [if_neg c6] at h
  by_cases c7 : valS m + 8 > (s.size : Int) - ((a : Int) + 2 + (m.length : Int))
  · rw [if_pos c7] at h
    simp at h
  rw [if_neg c7] at h
  obtain ⟨n, hn⟩ : ∃ n : Nat, valS m = (n : Int) := ⟨(valS m).toNat, by have := valS_nonneg m; omega⟩
  have hmn : m = numS n := by rw [← canon_val m hm, hn, Int.toNat_natCast]
  rw [hn] at h c6 c7
  have n1 : ((a : Int) + 2 + (m.length : Int) + (n : Int)).toNat = a + (2 + m.length + n) := by omega
  have n2 : ((a : Int) + 2 + (m.length : Int) + (n : Int) + 8).toNat = a + (2 + m.length + n) + 8 := by omega
  have n3 : ((a : Int) + 2 + (m.length : Int)).toNat = a + (2 + m.length) := by omega
  rw [n1, n2, n3] at h
  -- the bytes
  have l0 : l[0]'(by omega) = 231 := by
    have := bt_drop s a l hl 0 (by omega)
    rw [show ((a : Int) + ((0 : Nat) : Int)) = (a : Int) by omega, c2] at this
    exact this.symm
  have l1 : l[1]'(by omega) = v := by
    have := bt_drop s a l hl 1 (by omega)
    rw [show ((a : Int) + ((1 : Nat) : Int)) = (a : Int) + 1 by omega, c4] at this
    exact this.symm
  have hl2 : l = 231 :: v :: (m ++ r) := by
    rw [← em]
    rcases l with _ | ⟨x, _ | ⟨y, l⟩⟩
    · simp at hs; omega
    · simp at hs; omega
    · simp at l0 l1
      rw [l0, l1]
      rfl
  have hrl : r.length = s.size - a - 2 - m.length := by
    have := congrArg List.length hl2
    simp at this
    omega
  by_cases c8 : eightB (sumS (bytesOf (s.extract a (a + (2 + m.length + n))))) = s.extract (a + (2 + m.length + n)) (a + (2 + m.length + n) + 8)
  rotate_left
  · rw [if_neg c8] at h
    simp at h
  rw [if_pos c8] at h
  simp only [Prod.mk.injEq, and_true] at h
  obtain ⟨hb, hq⟩ := h
  have hbb : bytesOf b = r.take n := by
    rw [← hb]
    have hd : (bytesOf s).drop (a + (2 + m.length)) = r := by
      rw [← List.drop_drop, hl, hl2, show 231 :: v :: (m ++ r) = (231 :: v :: m) ++ r from rfl, List.drop_append_of_le_length (by simp; omega), List.drop_of_length_le (by simp; omega)]
      rfl
    exact ext_bytes s _ _ n _ hd (by omega)
  have hbs : b.size = n := by rw [← size_bytesOf, hbb, List.length_take]; omega
  have x1 : bytesOf (s.extract a (a + (2 + m.length + n))) = 231 :: v :: (m ++ r.take n) := by
    rw [ext_bytes s a _ _ l hl rfl, hl2, show 2 + m.length + n = (m.length + n) + 1 + 1 by omega, List.take_succ_cons, List.take_succ_cons, List.take_append, List.take_of_length_le (by omega), Nat.add_sub_cancel_left]
  have x2 : bytesOf (s.extract (a + (2 + m.length + n)) (a + (2 + m.length + n) + 8)) = (r.drop n).take 8 := by
    have hd : (bytesOf s).drop (a + (2 + m.length + n)) = r.drop n := by
      rw [← List.drop_drop, hl, hl2, show 2 + m.length + n = (m.length + n) + 1 + 1 by omega, List.drop_succ_cons, List.drop_succ_cons, List.drop_append, List.drop_of_length_le (by omega), Nat.add_sub_cancel_left]
      rfl
    exact ext_bytes s _ _ 8 _ hd rfl
  have x3 := congrArg bytesOf c8
  rw [eightB_bytes, x1, x2] at x3
  have hfr : frB v b = 231 :: v :: (m ++ r.take n) ++ (r.drop n).take 8 := by
    unfold frB
    rw [hbs, ← hmn, hbb, x3]
  have hlen := frB_len v b
  rw [hbs, ← hmn] at hlen
  refine ⟨⟨by omega, by omega⟩, by omega, by omega, ?_, ?_, by omega⟩
  · have hqn : q.toNat = a + (2 + m.length + n + 8) := by omega
    rw [hqn, ← List.drop_drop, hl, hfr]
    conv => lhs; rw [hl2]
    rw [hl2, show 2 + m.length + n + 8 = (m.length + (n + 8)) + 1 + 1 by omega, List.drop_succ_cons, List.drop_succ_cons, List.drop_append, List.drop_of_length_le (by omega : m.length ≤ m.length + (n + 8)), Nat.add_sub_cancel_left, List.nil_append]
    have e1 : r = r.take n ++ ((r.drop n).take 8 ++ r.drop (n + 8)) := by
      rw [← List.drop_drop, List.take_append_drop, List.take_append_drop]
    conv => lhs; rw [e1]
    simp
  · rw [hlen, ← hq]
    omega
theorem op_err (s : ByteArray) (a v : Int) (ha : 0 ≤ a ∧ a ≤ (s.size : Int)) (hv : VOK v) : (OP s a v).2.2 ≠ 2 := by
  have hv0 := hv.1
  have hv1 := hv.2
  unfold OP
  rw [if_neg (by omega)]
  split
  · decide
  split
  · split
    · decide
    split
    · split
      · split
        · decide
        split
        · decide
        split
        · show (0 : Int) ≠ 2
          decide
        · decide
      · rename_i c
        have : (TN s (a + 2)).2.2 ≠ 2 := by
          rename_i c3 c4
          unfold TN
          rw [if_neg (by omega)]
          rcases tnS_err ((bytesOf s).drop (a + 2).toNat) 0 0 with h | ⟨_, _, h | h⟩ <;> simp [h]
        exact this
    · decide
  · decide
/-- What Small counts. -/
def sm : List ByteArray → Int
  | [] => 0
  | s :: l => mn (s.size : Int) 100000 + 10 + sm l
theorem sm_pos (l : List ByteArray) : 0 ≤ sm l := by
  induction l with
  | nil => simp [sm]
  | cons s l ih => simp only [sm]; unfold mn; split <;> omega
theorem small_loop (l : List ByteArray) (hl : l.length ≤ 140737488351232) (d : Nat) : ∀ (i : Nat) (n : Int), i + d = l.length → 0 ≤ n → n ≤ 50000 →
    Ev (fun k => ententelaw01_Small.l0 k l n (i : Int)) (decide (n + sm (l.drop i) ≤ 50000)) := by
  induction d with
  | zero =>
    intro i n hi h0 h1
    refine Ev.step (f := fun _ => some (decide (n + sm (l.drop i) ≤ 50000))) (fun k => ?_) (Ev.now _)
    simp only [ententelaw01_Small.l0]
    rw [if_neg (by omega), List.drop_eq_nil_of_le (by omega)]
    congr 1
    exact (decide_eq_true (by simp only [sm]; omega)).symm
  | succ d ih =>
    intro i n hi h0 h1
    have hd := drop_rdOf l i (by omega)
    have h2 : wrap64 ((i : Int) + 1) = ((i + 1 : Nat) : Int) := by unfold wrap64; omega
    have hm : 0 ≤ mn ((rdOf ByteArray.empty l (i : Int)).size : Int) 100000 ∧ mn ((rdOf ByteArray.empty l (i : Int)).size : Int) 100000 ≤ 100000 := by unfold mn; split <;> omega
    have hp := sm_pos (l.drop (i + 1))
    have es : n + sm (rdOf ByteArray.empty l (i : Int) :: l.drop (i + 1)) = n + (mn ((rdOf ByteArray.empty l (i : Int)).size : Int) 100000 + 10) + sm (l.drop (i + 1)) := by simp only [sm]; omega
    rw [hd, es]
    have hw : wrap64 (n + (mn ((rdOf ByteArray.empty l (i : Int)).size : Int) 100000 + 10)) = n + (mn ((rdOf ByteArray.empty l (i : Int)).size : Int) 100000 + 10) := wr _ (by omega)
    by_cases c : n + (mn ((rdOf ByteArray.empty l (i : Int)).size : Int) 100000 + 10) > 50000
    · refine Ev.step (f := fun _ => some false) (fun k => ?_) ?_
      · simp only [ententelaw01_Small.l0]
        rw [if_pos (by omega), if_pos (by omega), hw, if_pos c]
      · rw [decide_eq_false (by omega)]
        exact Ev.now _
    · refine Ev.step (f := fun k => ententelaw01_Small.l0 k l (n + (mn ((rdOf ByteArray.empty l (i : Int)).size : Int) 100000 + 10)) ((i + 1 : Nat) : Int)) (fun k => ?_) (ih (i + 1) _ (by omega) (by omega) (by omega))
      simp only [ententelaw01_Small.l0]
      rw [if_pos (by omega), if_pos (by omega), hw, if_neg c, h2]
theorem small_ev (l : List ByteArray) (hl : l.length ≤ 140737488351232) : Ev (fun k => ententelaw01_Small.f k l) (decide (sm l ≤ 50000)) := by
  have := small_loop l hl l.length 0 0 (by omega) (by omega) (by omega)
  rw [List.drop_zero, Int.zero_add] at this
  exact this
theorem awake_ev : Ev (fun k => ententelaw16_awake.f k) true := Ev.of ententelaw16_awake.mono (k := 60) (by decide +kernel)
theorem awake_ends : Ev (fun k => (ententelaw16_awake.f k).bind fun t => some t) true := Ev.bind (f := fun _ t => some t) awake_ev (Ev.now _)
theorem seal_size (b : ByteArray) (h : (SEAL 3 b).2 = 0) : (SEAL 3 b).1.size ≤ 30020 := by
  by_cases c : VOK 3 ∧ (b.size : Int) ≤ 30000
  · rw [seal_ok 3 c.1 b c.2]
    have h1 : (FR 3 b).size = (frB 3 b).length := by rw [← size_bytesOf, fr_bytes 3 c.1]
    have h2 := frB_len 3 b
    have h3 := nm_ten (b.size : Int) (by omega)
    rw [nm_size] at h3
    rw [Int.toNat_natCast] at h3
    show (FR 3 b).size ≤ 30020
    omega
  · exact absurd h (seal_bad 3 b c)
theorem sm_len (l : List ByteArray) : 10 * (l.length : Int) ≤ sm l := by
  induction l with
  | nil => simp [sm]
  | cons b l ih => simp only [sm, List.length_cons]; unfold mn; split <;> omega
theorem begin_ev (b : ByteArray) : Ev (fun k => segment_Begin.f k b) (SEAL 3 b) := by
  unfold segment_Begin.f
  exact Ev.bind (seal_ev 3 b) (ev_eq (Ev.now _) rfl)
/-! Frames, one behind the other. -/
def FRL (v : Int) : List ByteArray → List Int
  | [] => []
  | b :: r => frB v b ++ FRL v r
def catF (v : Int) : List ByteArray → ByteArray
  | [] => E0
  | b :: r => FR v b ++ catF v r
theorem catF_bytes (v : Int) (hv : VOK v) (l : List ByteArray) : bytesOf (catF v l) = FRL v l := by
  induction l with
  | nil => rfl
  | cons b l ih =>
    unfold catF FRL
    rw [bytesOf_append, fr_bytes v hv, ih]
theorem FRL_len (v : Int) (l : List ByteArray) : 11 * l.length ≤ (FRL v l).length := by
  induction l with
  | nil => simp [FRL]
  | cons b l ih =>
    unfold FRL
    have := frB_len v b
    have := numS_pos b.size
    rw [List.length_append, List.length_cons]
    omega
theorem app_E0 (s : ByteArray) : s ++ E0 = s := bytesOf_inj (by rw [bytesOf_append]; exact List.append_nil _)
theorem app3 (s t u : ByteArray) : s ++ t ++ u = s ++ (t ++ u) := bytesOf_inj (by simp only [bytesOf_append, List.append_assoc])
theorem fr_size (v : Int) (hv : VOK v) (b : ByteArray) : (FR v b).size = (frB v b).length := by rw [← size_bytesOf, fr_bytes v hv]
theorem cut_any (s : ByteArray) (hs : s.size ≤ 1000000) (v : Int) (hv : VOK v) (d : Nat) : ∀ (p : Nat) (out : List ByteArray), s.size - p ≤ d → p ≤ s.size → out.length + (s.size - p) ≤ 2000000 →
    ∃ (bs : List ByteArray) (q : Nat) (e : Int), Ev (fun k => seal_Cut.l0 k s v (p : Int) out) (out ++ bs, (q : Int), e) ∧ q ≤ s.size ∧ (bytesOf s).drop p = FRL v bs ++ (bytesOf s).drop q ∧ q = p + (FRL v bs).length ∧ (e = 0 ↔ q = s.size) ∧ e ≠ 2 ∧ ∀ b ∈ bs, b.size ≤ 30000 := by
  induction d using Nat.strongRecOn with
  | _ d ih =>
    intro p out hd hp ho
    by_cases c : p = s.size
    · refine ⟨[], p, 0, Ev.step (fun k => by rw [seal_Cut.l0]) (ev_neg (by omega) (ev_eq (Ev.now _) (by rw [List.append_nil]))), hp, rfl, rfl, ⟨fun _ => c, fun _ => rfl⟩, by decide, fun b hb => by cases hb⟩
    · have hO := open_ev s (by omega) (p : Int) v
      obtain ⟨⟨b, q, e⟩, hop⟩ : ∃ t, t = OP s (p : Int) v := ⟨_, rfl⟩
      rw [← hop] at hO
      by_cases c2 : e = 0
      · subst c2
        obtain ⟨_, _, h3, h4, h5, h6⟩ := op_ok s (p : Int) v b q hop.symm
        rw [Int.toNat_natCast] at h4
        obtain ⟨q, rfl⟩ : ∃ n : Nat, q = (n : Int) := ⟨q.toNat, by omega⟩
        rw [Int.toNat_natCast] at h4
        have hfp := frB_len v b
        obtain ⟨bs, q2, e2, i1, i2, i3, i4, i5, i6, i7⟩ := ih (s.size - q) (by omega) q (out ++ [b]) (Nat.le_refl _) (by omega) (by rw [List.length_append, List.length_singleton]; omega)
        rw [List.append_assoc] at i1
        have hstep : Ev (fun k => seal_Cut.l0 k s v (p : Int) out) (out ++ b :: bs, (q2 : Int), e2) := by
          refine Ev.step (fun k => by rw [seal_Cut.l0]) ?_
          refine ev_pos (by omega) (Ev.bind hO ?_)
          exact ev_pos rfl (ev_pos (by omega) i1)
        refine ⟨b :: bs, q2, e2, hstep, i2, ?_, ?_, i5, i6, ?_⟩
        · unfold FRL
          rw [h4, i3, List.append_assoc]
        · unfold FRL
          rw [List.length_append]
          omega
        · intro x hx
          rcases List.mem_cons.1 hx with rfl | hx
          · exact h3
          · exact i7 x hx
      · have he := op_err s (p : Int) v (by omega) hv
        rw [← hop] at he
        have hstep : Ev (fun k => seal_Cut.l0 k s v (p : Int) out) (out ++ [], (p : Int), e) := by
          refine Ev.step (fun k => by rw [seal_Cut.l0]) ?_
          refine ev_pos (by omega) (Ev.bind hO ?_)
          rw [List.append_nil]
          exact ev_neg c2 (Ev.now _)
        refine ⟨[], p, e, hstep, hp, rfl, rfl, ⟨fun h => absurd h c2, fun h => absurd h c⟩, he, fun b hb => by cases hb⟩
theorem cut_bad (s : ByteArray) (v : Int) (hv : ¬ VOK v) : Ev (fun k => seal_Cut.f k s v) ([], 0, 2) := by
  unfold VOK at hv
  unfold seal_Cut.f
  refine ev_ite (fun _ => Ev.now _) (fun c => ?_)
  exact ev_pos (by omega) (Ev.now _)
theorem cut_start (s : ByteArray) (v : Int) (hv : VOK v) {r : List ByteArray × Int × Int} (h : Ev (fun k => seal_Cut.l0 k s v 0 []) r) : Ev (fun k => seal_Cut.f k s v) r := by
  have := hv.1
  have := hv.2
  unfold seal_Cut.f
  exact ev_neg (by omega) (ev_neg (by omega) h)
theorem FRL_append (v : Int) (l m : List ByteArray) : FRL v (l ++ m) = FRL v l ++ FRL v m := by
  induction l with
  | nil => rfl
  | cons b l ih => rw [List.cons_append, FRL, FRL, ih, List.append_assoc]
theorem cut_frames (s : ByteArray) (hs : s.size ≤ 1000000) (v : Int) (hv : VOK v) (tail : List Int) (ht : tail = [] ∨ ∃ b t, b.size ≤ 30000 ∧ tail ++ t = frB v b ∧ t ≠ []) (bs : List ByteArray) : (∀ b ∈ bs, b.size ≤ 30000) → ∀ (p : Nat) (out : List ByteArray), (bytesOf s).drop p = FRL v bs ++ tail → p ≤ s.size → out.length + bs.length ≤ 2000000 →
    Ev (fun k => seal_Cut.l0 k s v (p : Int) out) (out ++ bs, ((p + (FRL v bs).length : Nat) : Int), if tail = [] then 0 else 10) := by
  induction bs with
  | nil =>
    intro _ p out h hp ho
    have hl : s.size - p = tail.length := by
      have := congrArg List.length h
      rw [List.length_drop, size_bytesOf] at this
      simpa [FRL] using this
    rw [List.append_nil, show (FRL v []).length = 0 from rfl, Nat.add_zero]
    refine Ev.step (fun k => by rw [seal_Cut.l0]) ?_
    rcases ht with rfl | ⟨b, t, hb, e, hne⟩
    · rw [if_pos rfl]
      refine ev_neg ?_ (Ev.now _)
      simp at hl
      omega
    · by_cases c : tail = []
      · subst c
        rw [if_pos rfl]
        refine ev_neg ?_ (Ev.now _)
        simp at hl
        omega
      · rw [if_neg c]
        have := List.length_pos_iff.2 c
        have hO := open_ev s (by omega) (p : Int) v
        rw [op_short s p hp v hv b hb tail t (by simpa [FRL] using h) e hne] at hO
        refine ev_pos (by omega) (Ev.bind hO ?_)
        exact ev_neg (by decide) (Ev.now _)
  | cons b bs ih =>
    intro hb p out h hp ho
    have hbb := hb b List.mem_cons_self
    unfold FRL at h
    rw [List.append_assoc] at h
    have hO := open_ev s (by omega) (p : Int) v
    rw [op_frame s p v hv b hbb _ h] at hO
    have hl : s.size - p = (frB v b).length + (FRL v bs ++ tail).length := by
      have := congrArg List.length h
      rw [List.length_drop, size_bytesOf, List.length_append] at this
      exact this
    have hfp := frB_len v b
    rw [List.length_cons] at ho
    have := ih (fun x hx => hb x (List.mem_cons_of_mem _ hx)) (p + (frB v b).length) (out ++ [b]) (by rw [← List.drop_drop, h, List.drop_append_of_le_length (Nat.le_refl _), List.drop_length, List.nil_append]) (by omega) (by rw [List.length_append, List.length_singleton]; omega)
    rw [List.append_assoc] at this
    unfold FRL
    rw [List.length_append]
    have e : p + ((frB v b).length + (FRL v bs).length) = p + (frB v b).length + (FRL v bs).length := by omega
    rw [e]
    have e2 : ((p + (frB v b).length : Nat) : Int) = (p : Int) + (frB v b).length := by omega
    rw [e2] at this
    refine Ev.step (fun k => by rw [seal_Cut.l0]) ?_
    refine ev_pos (by omega) (Ev.bind hO ?_)
    exact ev_pos rfl (ev_pos (by omega) this)
theorem sm_frames (v : Int) (l : List ByteArray) : (∀ b ∈ l, b.size ≤ 30000) → ((FRL v l).length : Int) ≤ 2 * sm l := by
  induction l with
  | nil => intro _; simp [FRL, sm]
  | cons b l ih =>
    intro hb
    have h := ih (fun x hx => hb x (List.mem_cons_of_mem _ hx))
    have hbb := hb b List.mem_cons_self
    unfold FRL
    simp only [sm]
    have hfp := frB_len v b
    have h10 := numS_ten b.size (by omega)
    have : mn (b.size : Int) 100000 = b.size := by unfold mn; split <;> omega
    rw [List.length_append, this]
    omega
theorem take_prefix (v : Int) (l : List ByteArray) (n c : Nat) (hn : n ≤ l.length) (h0 : (FRL v (l.take n)).length ≤ c) (hc : c ≤ (FRL v l).length) (h1 : (hlt : n < l.length) → c < (FRL v (l.take n)).length + (frB v l[n]).length) (hb : ∀ b ∈ l, b.size ≤ 30000) :
    ∃ tail, (FRL v l).take c = FRL v (l.take n) ++ tail ∧ (tail = [] ∨ ∃ b t, b.size ≤ 30000 ∧ tail ++ t = frB v b ∧ t ≠ []) ∧ (tail = [] ↔ c = (FRL v (l.take n)).length) := by
  have e : FRL v l = FRL v (l.take n) ++ FRL v (l.drop n) := by rw [← FRL_append, List.take_append_drop]
  refine ⟨(FRL v (l.drop n)).take (c - (FRL v (l.take n)).length), ?_, ?_, ?_⟩
  · conv => lhs; rw [e]
    rw [List.take_append, List.take_of_length_le h0]
  · by_cases hlt : n < l.length
    · have hd : l.drop n = l[n] :: l.drop (n + 1) := List.drop_eq_getElem_cons hlt
      have h2 := h1 hlt
      refine .inr ⟨l[n], (frB v l[n]).drop (c - (FRL v (l.take n)).length), hb _ (List.getElem_mem hlt), ?_, ?_⟩
      · rw [hd, FRL, List.take_append_of_le_length (by omega), List.take_append_drop]
      · apply List.ne_nil_of_length_pos
        rw [List.length_drop]
        omega
    · left
      rw [List.drop_eq_nil_of_le (by omega)]
      simp [FRL]
  · constructor
    · intro h
      have := congrArg List.length h
      rw [List.length_take] at this
      have e2 := congrArg List.length e
      rw [List.length_append] at e2
      rw [List.length_nil] at this
      omega
    · intro h
      rw [h, Nat.sub_self, List.take_zero]
theorem rd_get (l : List Int) (i : Nat) (h : i < l.length) : rd l (i : Int) = l[i] := by
  unfold rd
  rw [Int.toNat_natCast, List.getD_eq_getElem?_getD, List.getElem?_eq_getElem h]
  rfl
theorem rev_loop (l : List Int) (hl : l.length ≤ 1000000000) (d : Nat) : ∀ (i : Nat) (x : List Int), l.length - 2 * i ≤ d → 2 * i ≤ l.length → x.length = l.length →
    (∀ j, j < l.length → x[j]? = if j < i ∨ l.length - i ≤ j then l[l.length - 1 - j]? else l[j]?) → Ev (fun k => slices_Reverse_int_int.l0 k x (i : Int) ((l.length : Int) - 1 - (i : Int))) l.reverse := by
  induction d using Nat.strongRecOn with
  | _ d ih =>
    intro i x hd h2 hx hc
    by_cases c : i < l.length - 1 - i
    · have e1 : wrap64 ((i : Int) + 1) = ((i + 1 : Nat) : Int) := by unfold wrap64; omega
      have e2 : wrap64 ((l.length : Int) - 1 - (i : Int) - 1) = (l.length : Int) - 1 - ((i + 1 : Nat) : Int) := by rw [wr _ (by omega)]; omega
      have e3 : (l.length : Int) - 1 - (i : Int) = ((l.length - 1 - i : Nat) : Int) := by omega
      have g1 := hc i (by omega)
      have g2 := hc (l.length - 1 - i) (by omega)
      rw [if_neg (by omega)] at g1 g2
      have r1 : rd x (i : Int) = l[i] := by
        rw [rd_get x i (by omega)]
        rw [List.getElem?_eq_getElem (by omega), List.getElem?_eq_getElem (by omega)] at g1
        exact Option.some.inj g1
      have r2 : rd x ((l.length : Int) - 1 - (i : Int)) = l[l.length - 1 - i] := by
        rw [e3, rd_get x _ (by omega)]
        rw [List.getElem?_eq_getElem (by omega), List.getElem?_eq_getElem (by omega)] at g2
        exact Option.some.inj g2
      refine Ev.step (fun k => by rw [slices_Reverse_int_int.l0]) ?_
      refine ev_pos (by omega) (ev_pos (by omega) (ev_pos (by omega) (ev_pos (by omega) (ev_pos (by omega) ?_))))
      rw [e1, e2, r1, r2]
      rw [e3, Int.toNat_natCast, Int.toNat_natCast]
      refine ih (l.length - 2 * (i + 1)) (by omega) (i + 1) _ (Nat.le_refl _) (by omega) (by simpa using hx) (fun j hj => ?_)
      rw [List.getElem?_set, List.getElem?_set]
      by_cases k1 : l.length - 1 - i = j
      · rw [if_pos k1, if_pos (by simp; omega), if_pos (by omega), List.getElem?_eq_getElem (by omega)]
        congr 2
        omega
      · rw [if_neg k1]
        by_cases k2 : i = j
        · rw [if_pos k2, if_pos (by omega), if_pos (by omega), List.getElem?_eq_getElem (by omega)]
          congr 2
          omega
        · rw [if_neg k2, hc j hj]
          by_cases k3 : j < i ∨ l.length - i ≤ j
          · rw [if_pos k3, if_pos (by omega)]
          · rw [if_neg k3, if_neg (by omega)]
    · refine Ev.step (fun k => by rw [slices_Reverse_int_int.l0]) ?_
      refine ev_neg (by omega) (ev_eq (Ev.now _) ?_)
      apply List.ext_getElem?
      intro j
      by_cases hj : j < l.length
      · rw [hc j hj, List.getElem?_reverse hj]
        by_cases k3 : j < i ∨ l.length - i ≤ j
        · rw [if_pos k3]
        · rw [if_neg k3]
          congr 1
          omega
      · rw [List.getElem?_eq_none (by omega), List.getElem?_eq_none (by rw [List.length_reverse]; omega)]
theorem rev_ev (l : List Int) (hl : l.length ≤ 1000000000) : Ev (fun k => slices_Reverse_int_int.f k l) l.reverse := by
  have := rev_loop l hl l.length 0 l (by omega) (by omega) rfl (fun j hj => by rw [if_neg (by omega)])
  unfold slices_Reverse_int_int.f
  rw [show wrap64 ((l.length : Int) - 1) = (l.length : Int) - 1 - ((0 : Nat) : Int) by rw [wr _ (by omega)]; omega]
  exact this
theorem same_loop (l : List ByteArray) (hl : l.length ≤ 1000000) (d : Nat) : ∀ (i : Nat), i + d = l.length → Ev (fun k => ententeref01_Same.l0 k l l (i : Int)) true := by
  induction d with
  | zero =>
    intro i hi
    refine Ev.step (fun k => by rw [ententeref01_Same.l0]) ?_
    exact ev_neg (by omega) (Ev.now _)
  | succ d ih =>
    intro i hi
    have := ih (i + 1) (by omega)
    refine Ev.step (fun k => by rw [ententeref01_Same.l0]) ?_
    refine ev_pos (by omega) (ev_pos (by omega) (ev_pos (by omega) (ev_pos rfl ?_)))
    rw [wr ((i : Int) + 1) (by omega)]
    exact this
theorem same16_ev (l : List ByteArray) (hl : l.length ≤ 1000000) : Ev (fun k => ententeref16_Same.f k l l) true := by
  unfold ententeref16_Same.f
  refine Ev.bind (a := true) ?_ (Ev.now _)
  unfold ententeref01_Same.f
  exact ev_pos rfl (same_loop l hl l.length 0 (by omega))
theorem numbers_loop (l : List Int) (hl : l.length ≤ 1000000) (d : Nat) : ∀ (i : Nat), i + d = l.length → Ev (fun k => ententeref16_Numbers.l0 k l l (i : Int)) true := by
  induction d with
  | zero =>
    intro i hi
    refine Ev.step (fun k => by rw [ententeref16_Numbers.l0]) ?_
    exact ev_neg (by omega) (Ev.now _)
  | succ d ih =>
    intro i hi
    have := ih (i + 1) (by omega)
    refine Ev.step (fun k => by rw [ententeref16_Numbers.l0]) ?_
    refine ev_pos (by omega) (ev_pos (by omega) (ev_pos (by omega) (ev_pos rfl ?_)))
    rw [wr ((i : Int) + 1) (by omega)]
    exact this
theorem numbers_ev (l : List Int) (hl : l.length ≤ 1000000) : Ev (fun k => ententeref16_Numbers.f k l l) true := by
  unfold ententeref16_Numbers.f
  exact ev_pos rfl (numbers_loop l hl l.length 0 (by omega))
theorem rd46 (l : List S46) (i : Nat) (h : i < l.length) : rd_T46 l (i : Int) = l[i] := by
  unfold rd_T46
  rw [Int.toNat_natCast, List.getD_eq_getElem?_getD, List.getElem?_eq_getElem h]
  rfl
theorem drop46 (l : List S46) (i : Nat) (h : i < l.length) : l.drop i = rd_T46 l (i : Int) :: l.drop (i + 1) := by
  rw [List.drop_eq_getElem_cons h, rd46 l i h]
/-! the files -/
def OE (f : S46) : Int := (OP f.f1 0 3).2.2
/-- What the newest whole file answers; C: what Cut says of a file. -/
def LS (C : S46 → List ByteArray × Int × Int) (l : List S46) : Nat → Int × Int × List ByteArray × List Int × Int
  | 0 => (-1, 0, [], l.map S46.f0, 0)
  | n + 1 => if OE (rd_T46 l (n : Int)) = 10 then LS C l n
    else if OE (rd_T46 l (n : Int)) ≠ 0 ∨ (C (rd_T46 l (n : Int))).2.2 ≠ 0 ∧ (C (rd_T46 l (n : Int))).2.2 ≠ 10 then (0, 0, [], [], 170)
    else ((rd_T46 l (n : Int)).f0, (C (rd_T46 l (n : Int))).2.1, (C (rd_T46 l (n : Int))).1, (l.take n ++ l.drop (n + 1)).map S46.f0, 0)
theorem go_met (k0 : List S46) (hz : ∀ f ∈ k0, f.f1.size ≤ 1000000) : ∀ (num good : Int) (bodies : List ByteArray) (drop : List Int), drop.length + k0.length ≤ 1000000 →
    Ev (fun k => segment_Look.go k k0 num good bodies drop true) (num, good, bodies, drop ++ k0.map S46.f0, 0) := by
  induction k0 with
  | nil =>
    intro num good bodies drop hd
    simp only [segment_Look.go, List.map_nil, List.append_nil]
    exact Ev.now _
  | cons f r ih =>
    intro num good bodies drop hd
    rw [List.length_cons] at hd
    have := ih (fun x hx => hz x (List.mem_cons_of_mem _ hx)) num good bodies (drop ++ [f.f0]) (by rw [List.length_append, List.length_singleton]; omega)
    rw [List.append_assoc, List.singleton_append] at this
    simp only [segment_Look.go]
    refine Ev.bind (a := (num, good, bodies, drop ++ [f.f0], true, 0)) ?_ ?_
    · unfold segment_Look.step
      refine Ev.bind (open_ev f.f1 (by have := hz f List.mem_cons_self; omega) 0 3) ?_
      exact ev_pos (.inr rfl) (ev_pos (by omega) (Ev.now _))
    · exact ev_pos rfl this
theorem go_ev (C : S46 → List ByteArray × Int × Int) (l : List S46) (hl : l.length ≤ 1000000) (hz : ∀ f ∈ l, f.f1.size ≤ 1000000) (hC : ∀ f ∈ l, Ev (fun k => seal_Cut.f k f.f1 3) (C f)) (n : Nat) : n ≤ l.length → ∀ drop : List Int, drop = ((l.drop n).reverse.map S46.f0) →
    ∃ t : Int × Int × List ByteArray × List Int × Int, Ev (fun k => segment_Look.go k ((l.take n).reverse) (-1) 0 [] drop false) t ∧ t.2.2.2.1.length ≤ l.length ∧ (if t.2.2.2.2 = 0 then (t.1, t.2.1, t.2.2.1, t.2.2.2.1.reverse, 0) else (0, 0, [], [], t.2.2.2.2)) = LS C l n := by
  induction n with
  | zero =>
    intro hn drop hd
    refine ⟨(-1, 0, [], drop, 0), ?_, ?_, ?_⟩
    · simp only [List.take_zero, List.reverse_nil, segment_Look.go]
      exact Ev.now _
    · rw [hd]; simp
    · rw [if_pos rfl, hd]
      simp only [LS, List.drop_zero]
      rw [← List.map_reverse, List.reverse_reverse]
  | succ n ih =>
    intro hn drop hd
    have hm : rd_T46 l (n : Int) ∈ l := by rw [rd46 l n (by omega)]; exact List.getElem_mem _
    have hs := hz _ hm
    have hcf := hC _ hm
    have e0 : (l.take (n + 1)).reverse = rd_T46 l (n : Int) :: (l.take n).reverse := by
      rw [List.take_add_one, List.getElem?_eq_getElem (by omega), Option.toList_some, List.reverse_append, List.reverse_singleton, List.singleton_append, rd46 l n (by omega)]
    have e1 : drop ++ [(rd_T46 l (n : Int)).f0] = (l.drop n).reverse.map S46.f0 := by
      rw [hd, drop46 l n (by omega), List.reverse_cons, List.map_append, List.map_singleton]
    have hdl : drop.length ≤ l.length := by rw [hd]; simp
    rw [e0]
    simp only [segment_Look.go]
    by_cases c1 : OE (rd_T46 l (n : Int)) = 10
    · obtain ⟨t, h1, h2, h3⟩ := ih (by omega) _ e1
      refine ⟨t, ?_, h2, ?_⟩
      · refine Ev.bind (a := (-1, 0, [], drop ++ [(rd_T46 l (n : Int)).f0], false, 0)) ?_ (ev_pos rfl h1)
        unfold segment_Look.step
        refine Ev.bind (open_ev _ (by omega) 0 3) ?_
        exact ev_pos (.inl c1) (ev_pos (by omega) (Ev.now _))
      · rw [h3]
        simp only [LS]
        rw [if_pos c1]
    · by_cases c2 : OE (rd_T46 l (n : Int)) ≠ 0 ∨ (C (rd_T46 l (n : Int))).2.2 ≠ 0 ∧ (C (rd_T46 l (n : Int))).2.2 ≠ 10
      · refine ⟨(-1, 0, [], drop, 170), ?_, hdl, ?_⟩
        · refine Ev.bind (a := (-1, 0, [], drop, false, 170)) ?_ (ev_neg (by dsimp only; omega) (Ev.now _))
          unfold segment_Look.step
          refine Ev.bind (open_ev _ (by omega) 0 3) ?_
          refine ev_neg (by intro h; rcases h with h | h; exact c1 h; cases h) (Ev.bind hcf ?_)
          exact ev_pos c2 (Ev.now _)
        · rw [if_neg (by dsimp only; omega)]
          simp only [LS]
          rw [if_neg c1, if_pos c2]
      · have hr := go_met ((l.take n).reverse) (fun x hx => hz x (List.mem_of_mem_take (List.mem_reverse.1 hx))) (rd_T46 l (n : Int)).f0 (C (rd_T46 l (n : Int))).2.1 (C (rd_T46 l (n : Int))).1 drop (by rw [hd]; simp; omega)
        refine ⟨_, Ev.bind (a := ((rd_T46 l (n : Int)).f0, (C (rd_T46 l (n : Int))).2.1, (C (rd_T46 l (n : Int))).1, drop, true, 0)) ?_ (ev_pos rfl hr), ?_, ?_⟩
        · unfold segment_Look.step
          refine Ev.bind (open_ev _ (by omega) 0 3) ?_
          refine ev_neg (by intro h; rcases h with h | h; exact c1 h; cases h) (Ev.bind hcf ?_)
          exact ev_neg c2 (Ev.now _)
        · rw [hd]; simp; omega
        · rw [if_pos rfl]
          simp only [LS]
          rw [if_neg c1, if_neg c2, hd, ← List.map_append, ← List.map_reverse, List.reverse_append, List.reverse_reverse, List.reverse_reverse]
theorem look_ev (C : S46 → List ByteArray × Int × Int) (l : List S46) (hl : l.length ≤ 1000000) (hz : ∀ f ∈ l, f.f1.size ≤ 1000000) (hC : ∀ f ∈ l, Ev (fun k => seal_Cut.f k f.f1 3) (C f)) :
    Ev (fun k => segment_Look.f k l) (if segment_Look.sorted l = true then LS C l l.length else (0, 0, [], [], 2)) := by
  unfold segment_Look.f
  by_cases c : segment_Look.sorted l = true
  · rw [if_pos c]
    refine ev_pos c ?_
    obtain ⟨t, h1, h2, h3⟩ := go_ev C l hl hz hC l.length (Nat.le_refl _) [] (by simp)
    rw [List.take_length] at h1
    refine Ev.bind h1 ?_
    by_cases c2 : t.2.2.2.2 = 0
    · rw [if_pos c2] at h3
      refine ev_pos c2 (Ev.bind (rev_ev _ (by omega)) ?_)
      exact ev_eq (Ev.now _) h3
    · rw [if_neg c2] at h3
      exact ev_neg c2 (ev_eq (Ev.now _) h3)
  · rw [if_neg c]
    exact ev_neg c (Ev.now _)
theorem v3 : VOK 3 := ⟨by omega, by omega⟩
theorem next_ev (l : List ByteArray) (hl : l.length ≤ 1000000) (d : Nat) : ∀ (i : Nat) (acc : ByteArray), i + d = l.length → acc.size + 40000 * d ≤ 1000000000000 →
    ∃ r, Ev (fun k => segment_Next.l0 k acc l (l.length : Int) (i : Int)) r ∧ (r.2 = 0 → r.1 = acc ++ catF 3 (l.drop i) ∧ ∀ b ∈ l.drop i, b.size ≤ 30000) := by
  induction d with
  | zero =>
    intro i acc hi ha
    refine ⟨(acc, 0), ?_, fun _ => ?_⟩
    · refine Ev.step (fun k => by rw [segment_Next.l0]) ?_
      exact ev_neg (by omega) (Ev.now _)
    · rw [List.drop_eq_nil_of_le (by omega)]
      exact ⟨(app_E0 acc).symm, fun b hb => by cases hb⟩
  | succ d ih =>
    intro i acc hi ha
    by_cases c : (SEAL 3 (rdOf ByteArray.empty l (i : Int))).2 = 0
    · have hz := seal_size _ c
      have cc : VOK 3 ∧ ((rdOf ByteArray.empty l (i : Int)).size : Int) ≤ 30000 := Classical.byContradiction fun h => seal_bad 3 _ h c
      obtain ⟨r, h1, h2⟩ := ih (i + 1) (acc ++ (SEAL 3 (rdOf ByteArray.empty l (i : Int))).1) (by omega) (by rw [size_app]; omega)
      have e1 : wrap64 ((i : Int) + 1) = ((i + 1 : Nat) : Int) := by unfold wrap64; omega
      refine ⟨r, ?_, fun h => ?_⟩
      · refine Ev.step (fun k => by rw [segment_Next.l0]) ?_
        refine ev_pos (by omega) (ev_pos (by omega) (ev_pos (by omega) (Ev.bind (seal_ev 3 _) ?_)))
        refine ev_pos c (ev_pos (by omega) ?_)
        rw [e1]
        exact h1
      · obtain ⟨g1, g2⟩ := h2 h
        rw [drop_rdOf l i (by omega)]
        refine ⟨?_, fun b hb => ?_⟩
        · rw [g1, seal_ok 3 v3 _ cc.2, catF, app3]
        · rcases List.mem_cons.1 hb with rfl | hb
          · omega
          · exact g2 b hb
    · refine ⟨(⟨#[]⟩, (SEAL 3 (rdOf ByteArray.empty l (i : Int))).2), ?_, fun h => absurd h c⟩
      refine Ev.step (fun k => by rw [segment_Next.l0]) ?_
      refine ev_pos (by omega) (ev_pos (by omega) (ev_pos (by omega) (Ev.bind (seal_ev 3 _) ?_)))
      exact ev_neg c (Ev.now _)
theorem begin_ok (b : ByteArray) (h : (b.size : Int) ≤ 30000) : Ev (fun k => segment_Begin.f k b) (FR 3 b, 0) := ev_eq (begin_ev b) (seal_ok 3 v3 b h)
theorem op_first (s b : ByteArray) (hb : b.size ≤ 30000) (r : List Int) (h : bytesOf s = frB 3 b ++ r) : (OP s 0 3).2.2 = 0 := by
  have := op_frame s 0 3 v3 b hb r (by rw [List.drop_zero]; exact h)
  rw [show ((0 : Nat) : Int) = 0 from rfl] at this
  rw [this]
theorem op_cut (b : ByteArray) (hb : b.size ≤ 30000) (n : Nat) (hn : n < (frB 3 b).length) : (OP ((FR 3 b).extract 0 n) 0 3).2.2 = 10 := by
  have hx : bytesOf ((FR 3 b).extract 0 n) = (frB 3 b).take n := ext_bytes (FR 3 b) 0 n n (frB 3 b) (by rw [List.drop_zero, fr_bytes 3 v3]) (by omega)
  have := op_short ((FR 3 b).extract 0 n) 0 (by omega) 3 v3 b hb ((frB 3 b).take n) ((frB 3 b).drop n) (by rw [List.drop_zero, hx]) (List.take_append_drop _ _) (by intro h; have := congrArg List.length h; rw [List.length_drop, List.length_nil] at this; omega)
  rw [show ((0 : Nat) : Int) = 0 from rfl] at this
  rw [this]
theorem cut_some (s : ByteArray) (hs : s.size ≤ 1000000) : ∃ r : List ByteArray × Int × Int, Ev (fun k => seal_Cut.f k s 3) r := by
  obtain ⟨bs, q, e, h, _⟩ := cut_any s hs 3 v3 s.size 0 [] (by omega) (by omega) (by simp; omega)
  exact ⟨_, cut_start s 3 v3 h⟩
theorem two_torn (C : S46 → List ByteArray × Int × Int) (s t : ByteArray) (h1 : (OP s 0 3).2.2 = 0) (h2 : (OP t 0 3).2.2 = 10) (hc : (C ⟨1, s, 0⟩).2.2 = 0) : LS C [⟨1, s, 0⟩, ⟨2, t, 0⟩] 2 = (1, (C ⟨1, s, 0⟩).2.1, (C ⟨1, s, 0⟩).1, [2], 0) := by
  simp only [LS]
  rw [show rd_T46 [(⟨1, s, 0⟩ : S46), ⟨2, t, 0⟩] ((1 : Nat) : Int) = ⟨2, t, 0⟩ from rfl, show rd_T46 [(⟨1, s, 0⟩ : S46), ⟨2, t, 0⟩] ((0 : Nat) : Int) = ⟨1, s, 0⟩ from rfl]
  rw [if_pos (show OE ⟨2, t, 0⟩ = 10 from h2), if_neg (show ¬ OE ⟨1, s, 0⟩ = 10 by unfold OE; rw [h1]; omega), if_neg (by unfold OE; rw [h1, hc]; omega)]
  rfl
theorem two_whole (C : S46 → List ByteArray × Int × Int) (s t : ByteArray) (h2 : (OP t 0 3).2.2 = 0) (hc : (C ⟨2, t, 0⟩).2.2 = 0) : LS C [⟨1, s, 0⟩, ⟨2, t, 0⟩] 2 = (2, (C ⟨2, t, 0⟩).2.1, (C ⟨2, t, 0⟩).1, [1], 0) := by
  simp only [LS]
  rw [show rd_T46 [(⟨1, s, 0⟩ : S46), ⟨2, t, 0⟩] ((1 : Nat) : Int) = ⟨2, t, 0⟩ from rfl]
  rw [if_neg (show ¬ OE ⟨2, t, 0⟩ = 10 by unfold OE; rw [h2]; omega), if_neg (by unfold OE; rw [h2, hc]; omega)]
  rfl
theorem cut_cat (l : List ByteArray) (hb : ∀ b ∈ l, b.size ≤ 30000) (hl : l.length ≤ 1000000) (hs : (catF 3 l).size ≤ 1000000) : Ev (fun k => seal_Cut.f k (catF 3 l) 3) (l, ((FRL 3 l).length : Int), 0) := by
  have hcs : (catF 3 l).size = (FRL 3 l).length := by rw [← size_bytesOf, catF_bytes 3 v3]
  have hall := cut_frames (catF 3 l) hs 3 v3 [] (.inl rfl) l hb 0 [] (by rw [List.drop_zero, catF_bytes 3 v3, List.append_nil]) (by omega) (by simp; omega)
  rw [List.nil_append, if_pos rfl, Nat.zero_add] at hall
  exact cut_start _ 3 v3 hall
def endsL (v : Int) : Int → List ByteArray → List Int
  | _, [] => []
  | n, b :: r => (n + (frB v b).length) :: endsL v (n + (frB v b).length) r
theorem ends_len (v : Int) (l : List ByteArray) : ∀ n, (endsL v n l).length = l.length := by
  induction l with
  | nil => intro n; rfl
  | cons b l ih =>
    intro n
    unfold endsL
    rw [List.length_cons, ih, List.length_cons]
theorem ends_at (v : Int) (l : List ByteArray) : ∀ (n : Int) (i : Nat), i < l.length → rd (endsL v n l) (i : Int) = n + (FRL v (l.take (i + 1))).length := by
  induction l with
  | nil => intro n i hi; exact absurd hi (Nat.not_lt_zero i)
  | cons b l ih =>
    intro n i hi
    unfold endsL
    rcases i with _ | i
    · rw [show rd ((n + (frB v b).length) :: endsL v (n + (frB v b).length) l) ((0 : Nat) : Int) = n + (frB v b).length from rfl]
      rw [List.take_succ_cons, List.take_zero, FRL, FRL, List.append_nil]
    · have e : rd ((n + (frB v b).length) :: endsL v (n + (frB v b).length) l) ((i + 1 : Nat) : Int) = rd (endsL v (n + (frB v b).length) l) (i : Int) := by
        unfold rd
        rw [Int.toNat_natCast, Int.toNat_natCast]
        rfl
      rw [e, ih _ i (by simp at hi; omega), List.take_succ_cons, FRL, List.length_append]
      omega
theorem one_sz : (⟨#[]⟩ : ByteArray).size = 0 := rfl
theorem reads_l0 (a : ByteArray) (l : List ByteArray) (cut : Int) (hl : l.length ≤ 1000000) (d : Nat) : ∀ (i : Nat) (acc : ByteArray) (ends : List Int), i + d = l.length → acc.size + 40000 * d ≤ 1000000000000 → ends.length + d ≤ 2000000 →
    ((∀ b ∈ l.drop i, b.size ≤ 30000) → Ev (fun k => ententelaw16_SegmentReads.l0 k a l cut (acc ++ catF 3 (l.drop i)) (ends ++ endsL 3 (acc.size : Int) (l.drop i)) (l.length : Int)) true) → Ev (fun k => ententelaw16_SegmentReads.l0 k a l cut acc ends (i : Int)) true := by
  induction d with
  | zero =>
    intro i acc ends hi ha he h
    rw [List.drop_eq_nil_of_le (by omega)] at h
    have := h (fun b hb => by cases hb)
    rw [show catF 3 [] = E0 from rfl, app_E0, show endsL 3 (acc.size : Int) [] = [] from rfl, List.append_nil] at this
    rw [show (i : Int) = (l.length : Int) by omega]
    exact this
  | succ d ih =>
    intro i acc ends hi ha he h
    have hd := drop_rdOf l i (by omega)
    rw [hd] at h
    have e1 : wrap64 ((i : Int) + 1) = ((i + 1 : Nat) : Int) := by unfold wrap64; omega
    refine Ev.step (fun k => by rw [ententelaw16_SegmentReads.l0]) ?_
    refine ev_pos (by omega) (ev_pos (by omega) ?_)
    generalize rdOf ByteArray.empty l (i : Int) = b at h hd ⊢
    obtain ⟨⟨r1, r2⟩, i1, i2⟩ := next_ev [b] (by simp) 1 0 ⟨#[]⟩ rfl (by rw [one_sz]; decide)
    refine Ev.bind (g := fun k => segment_Next.f k [b]) i1 ?_
    by_cases c : r2 = 0
    · obtain ⟨g1, g2⟩ := i2 c
      rw [List.drop_zero] at g1 g2
      have hb := g2 b List.mem_cons_self
      have g1' : r1 = FR 3 b := g1.trans (bytesOf_inj (by rw [bytesOf_append, catF, catF, app_E0]; rfl))
      clear g1 g2 i1 i2
      subst g1' c
      have hfs := fr_size 3 v3 b
      have hfl := frB_len 3 b
      have hnt := nm_ten (b.size : Int) (by omega)
      rw [nm_size, Int.toNat_natCast] at hnt
      refine ev_pos rfl (ev_pos (by show acc.size + (FR 3 b).size ≤ _; omega) (ev_pos (by omega) ?_))
      rw [e1]
      refine ih (i + 1) _ _ (by omega) (by show (acc ++ FR 3 b).size + _ ≤ _; rw [size_app]; omega) (by rw [List.length_append, List.length_singleton]; omega) (fun hall => ?_)
      have := h (fun x hx => by rcases List.mem_cons.1 hx with rfl | hx; exact hb; exact hall x hx)
      rw [catF, endsL, ← app3] at this
      have ez : ((acc ++ FR 3 b).size : Int) = (acc.size : Int) + ((frB 3 b).length : Int) := by rw [size_app]; omega
      show Ev (fun k => ententelaw16_SegmentReads.l0 k a l cut (acc ++ FR 3 b ++ catF 3 (l.drop (i + 1))) ((ends ++ [((acc ++ FR 3 b).size : Int)]) ++ endsL 3 ((acc ++ FR 3 b).size : Int) (l.drop (i + 1))) (l.length : Int)) true
      rw [ez, List.append_assoc, List.singleton_append]
      exact this
    · exact ev_neg c awake_ends
theorem one_file (C : S46 → List ByteArray × Int × Int) (t : ByteArray) (h : (OP t 0 3).2.2 = 0) (hc : (C ⟨5, t, 0⟩).2.2 = 0 ∨ (C ⟨5, t, 0⟩).2.2 = 10) : LS C [⟨5, t, 0⟩] 1 = (5, (C ⟨5, t, 0⟩).2.1, (C ⟨5, t, 0⟩).1, [], 0) := by
  simp only [LS]
  rw [show rd_T46 [(⟨5, t, 0⟩ : S46)] ((0 : Nat) : Int) = ⟨5, t, 0⟩ from rfl]
  rw [if_neg (show ¬ OE ⟨5, t, 0⟩ = 10 by unfold OE; rw [h]; omega), if_neg (by unfold OE; rw [h]; omega)]
  rfl
theorem reads_l1 (a : ByteArray) (l : List ByteArray) (s : ByteArray) (ends : List Int) (cut : Nat) (hl : l.length ≤ 1000000) (hel : ends.length = l.length + 1) (hcs : cut ≤ s.size)
    (T : ∀ n : Nat, n ≤ l.length → rd ends (n : Int) ≤ (cut : Int) → (n < l.length → (cut : Int) < rd ends ((n + 1 : Nat) : Int)) → ∃ t : Int × Int × List ByteArray × List Int × Int, Ev (fun k => segment_Look.f k [⟨5, s.extract 0 cut, 0⟩]) t ∧
      t.2.2.2.2 = 0 ∧ t.1 = 5 ∧ t.2.1 = rd ends (n : Int) ∧ Ev (fun k => ententeref16_Same.f k t.2.2.1 ([a] ++ l.take n)) true ∧ (t.2.2.2.1.length : Int) = 0) (d : Nat) : ∀ n : Nat, n + d = l.length → rd ends (n : Int) ≤ (cut : Int) → Ev (fun k => ententelaw16_SegmentReads.l1 k a l (cut : Int) s ends (n : Int)) true := by
  induction d with
  | zero =>
    intro n hn h0
    obtain ⟨t, ht, p1, p2, p3, p4, p5⟩ := T n (by omega) h0 (fun h => by omega)
    refine Ev.step (fun k => by rw [ententelaw16_SegmentReads.l1]) ?_
    rw [wr ((n : Int) + 1) (by omega), Int.toNat_natCast, Int.toNat_natCast]
    refine ev_neg (by omega) ?_
    refine ev_pos (by omega) ?_
    refine ev_pos (by omega) ?_
    refine Ev.bind ht ?_
    refine ev_pos p1 ?_
    refine ev_pos p2 ?_
    refine ev_pos (by omega) ?_
    refine ev_pos (by omega) ?_
    refine ev_pos p3 ?_
    refine Ev.bind (Ev.now _) ?_
    refine ev_pos (by omega) ?_
    refine ev_pos ?_ ?_
    · rw [List.length_take, List.length_singleton]
      omega
    refine Ev.bind p4 ?_
    refine ev_pos rfl ?_
    exact ev_pos p5 awake_ends
  | succ d ih =>
    intro n hn h0
    have e1 : wrap64 ((n : Int) + 1) = ((n + 1 : Nat) : Int) := by rw [wr _ (by omega)]; omega
    refine Ev.step (fun k => by rw [ententelaw16_SegmentReads.l1]) ?_
    rw [e1, Int.toNat_natCast, Int.toNat_natCast]
    refine ev_pos (by omega) ?_
    refine ev_pos (by omega) ?_
    refine ev_ite (fun c5 => ?_) (fun c5 => ?_)
    · exact ih (n + 1) (by omega) c5
    obtain ⟨t, ht, p1, p2, p3, p4, p5⟩ := T n (by omega) h0 (fun _ => by omega)
    refine ev_pos (by omega) ?_
    refine ev_pos (by omega) ?_
    refine Ev.bind ht ?_
    refine ev_pos p1 ?_
    refine ev_pos p2 ?_
    refine ev_pos (by omega) ?_
    refine ev_pos (by omega) ?_
    refine ev_pos p3 ?_
    refine Ev.bind (Ev.now _) ?_
    refine ev_pos (by omega) ?_
    refine ev_pos ?_ ?_
    · rw [List.length_take, List.length_singleton]
      omega
    refine Ev.bind p4 ?_
    refine ev_pos rfl ?_
    exact ev_pos p5 awake_ends
set_option maxHeartbeats 1000000 in
theorem SegmentReads : ententelaw16_SegmentReads.Pure := by
  intro a l cut ha0 hl0 _
  refine Ev.rounds (g := fun k => ententelaw16_SegmentReads.f k a l cut) ?_
  unfold ententelaw16_SegmentReads.f
  have away0 : Ev (fun k => ententelaw16_SegmentReads.j0 k a l cut true) true := by
    refine Ev.step (fun k => by rw [ententelaw16_SegmentReads.j0]) ?_
    exact ev_pos rfl awake_ends
  have away2 : ∀ s e, Ev (fun k => ententelaw16_SegmentReads.j2 k a l cut s e true) true := fun s e => by
    refine Ev.step (fun k => by rw [ententelaw16_SegmentReads.j2]) ?_
    exact ev_pos rfl awake_ends
  refine Ev.bind (small_ev l (by omega)) ?_
  by_cases c : sm l ≤ 50000
  rotate_left
  · rw [decide_eq_false c]
    exact ev_neg Bool.false_ne_true away0
  rw [decide_eq_true c]
  refine ev_pos rfl ?_
  by_cases ha : (a.size : Int) > 30000
  · rw [decide_eq_true ha]
    exact away0
  rw [decide_eq_false ha]
  have hll := sm_len l
  have hfs := fr_size 3 v3 a
  have hfl := frB_len 3 a
  have hnt := nm_ten (a.size : Int) (by omega)
  rw [nm_size, Int.toNat_natCast] at hnt
  refine Ev.step (fun k => by rw [ententelaw16_SegmentReads.j0]) ?_
  refine ev_neg Bool.false_ne_true (Ev.bind (begin_ok a (by omega)) (ev_pos rfl ?_))
  refine reads_l0 a l cut (by omega) l.length 0 _ _ (by omega) (by show (FR 3 a).size + _ ≤ _; omega) (by simp; omega) (fun hall => ?_)
  rw [List.drop_zero] at hall ⊢
  have hF := sm_frames 3 l hall
  have hb : ∀ b ∈ a :: l, b.size ≤ 30000 := fun b hb => by rcases List.mem_cons.1 hb with rfl | hb; omega; exact hall b hb
  have ec : FR 3 a ++ catF 3 l = catF 3 (a :: l) := rfl
  have ee : [((FR 3 a).size : Int)] ++ endsL 3 ((FR 3 a).size : Int) l = endsL 3 0 (a :: l) := by rw [endsL, Int.zero_add, hfs]; rfl
  show Ev (fun k => ententelaw16_SegmentReads.l0 k a l cut (FR 3 a ++ catF 3 l) ([((FR 3 a).size : Int)] ++ endsL 3 ((FR 3 a).size : Int) l) (l.length : Int)) true
  rw [ec, ee]
  have hcs : (catF 3 (a :: l)).size = (FRL 3 (a :: l)).length := by rw [← size_bytesOf, catF_bytes 3 v3]
  have hls : (FRL 3 (a :: l)).length = (frB 3 a).length + (FRL 3 l).length := by rw [FRL, List.length_append]
  have hel := ends_len 3 (a :: l) 0
  rw [List.length_cons] at hel
  refine Ev.step (fun k => by rw [ententelaw16_SegmentReads.l0]) ?_
  refine ev_neg (by omega) (ev_pos (by omega) (ev_ite (fun _ => away2 _ _) (fun c3 => ?_)))
  by_cases c4 : cut > ((catF 3 (a :: l)).size : Int)
  · rw [decide_eq_true c4]
    exact away2 _ _
  rw [decide_eq_false c4]
  have he0 := ends_at 3 (a :: l) 0 0 (by simp)
  rw [show ((0 : Nat) : Int) = 0 from rfl] at he0
  rw [he0] at c3
  obtain ⟨cut, rfl⟩ : ∃ n : Nat, cut = (n : Int) := ⟨cut.toNat, by omega⟩
  refine Ev.step (fun k => by rw [ententelaw16_SegmentReads.j2]) ?_
  refine ev_neg Bool.false_ne_true ?_
  have fin : ∀ n : Nat, n ≤ l.length → (FRL 3 ((a :: l).take (n + 1))).length ≤ cut → ((hlt : n + 1 < (a :: l).length) → cut < (FRL 3 ((a :: l).take (n + 1))).length + (frB 3 (a :: l)[n + 1]).length) →
      ∃ t : Int × Int × List ByteArray × List Int × Int, Ev (fun k => segment_Look.f k [⟨5, (catF 3 (a :: l)).extract 0 cut, 0⟩]) t ∧ t = (5, ((FRL 3 ((a :: l).take (n + 1))).length : Int), (a :: l).take (n + 1), [], 0) := by
    intro n hn h0 h1
    obtain ⟨tail, t1, t2, t3⟩ := take_prefix 3 (a :: l) (n + 1) cut (by rw [List.length_cons]; omega) h0 (by omega) h1 hb
    have hxs := extract_size (catF 3 (a :: l)) 0 cut
    have hbytes : bytesOf ((catF 3 (a :: l)).extract 0 cut) = FRL 3 ((a :: l).take (n + 1)) ++ tail := by rw [bytesOf_extract, List.drop_zero, catF_bytes 3 v3, t1]
    have hsome := cut_frames ((catF 3 (a :: l)).extract 0 cut) (by omega) 3 v3 tail t2 ((a :: l).take (n + 1)) (fun b hb' => hb b (List.mem_of_mem_take hb')) 0 [] (by rw [List.drop_zero, hbytes]) (by omega) (by rw [List.length_take, List.length_cons]; simp; omega)
    rw [List.nil_append, Nat.zero_add] at hsome
    have hop := op_first ((catF 3 (a :: l)).extract 0 cut) a (by omega) (FRL 3 (l.take n) ++ tail) (by rw [hbytes, List.take_succ_cons, FRL, List.append_assoc])
    have HL := look_ev (fun _ => ((a :: l).take (n + 1), ((FRL 3 ((a :: l).take (n + 1))).length : Int), if tail = [] then (0 : Int) else 10)) [⟨5, (catF 3 (a :: l)).extract 0 cut, 0⟩] (by simp) (by intro f hf; rw [List.mem_singleton.1 hf]; show ((catF 3 (a :: l)).extract 0 cut).size ≤ _; omega) (by intro f hf; rw [List.mem_singleton.1 hf]; exact cut_start _ 3 v3 hsome)
    rw [if_pos (by rfl)] at HL
    rw [show [(⟨5, (catF 3 (a :: l)).extract 0 cut, 0⟩ : S46)].length = 1 from rfl, one_file _ _ hop (by dsimp only; split; exact .inl rfl; exact .inr rfl)] at HL
    exact ⟨_, HL, rfl⟩
  have rest : ∀ n : Nat, n ≤ l.length → ∀ t : Int × Int × List ByteArray × List Int × Int, t = (5, ((FRL 3 ((a :: l).take (n + 1))).length : Int), (a :: l).take (n + 1), [], 0) →
      t.2.2.2.2 = 0 ∧ t.1 = 5 ∧ t.2.1 = rd (endsL 3 0 (a :: l)) (n : Int) ∧ Ev (fun k => ententeref16_Same.f k t.2.2.1 ([a] ++ l.take n)) true ∧ (t.2.2.2.1.length : Int) = 0 := by
    rintro n hn t rfl
    refine ⟨rfl, rfl, ?_, ?_, rfl⟩
    · rw [ends_at 3 (a :: l) 0 n (by rw [List.length_cons]; omega), Int.zero_add]
    · exact same16_ev ((a :: l).take (n + 1)) (by rw [List.length_take, List.length_cons]; omega)
  refine reads_l1 a l (catF 3 (a :: l)) (endsL 3 0 (a :: l)) cut (by omega) hel (by omega) (fun n hn q0 q1 => ?_) l.length 0 (by omega) ?_
  · have hk : ∀ i : Nat, i ≤ l.length → rd (endsL 3 0 (a :: l)) (i : Int) = ((FRL 3 ((a :: l).take (i + 1))).length : Int) := fun i hi => by
      rw [ends_at 3 (a :: l) 0 i (by rw [List.length_cons]; omega), Int.zero_add]
    rw [hk n hn] at q0
    obtain ⟨t, ht, hq⟩ := fin n hn (by omega) (fun hlt => by
      have hlt' : n < l.length := by rw [List.length_cons] at hlt; omega
      have := q1 hlt'
      rw [hk (n + 1) (by omega)] at this
      rw [List.take_succ_eq_append_getElem hlt, FRL_append, List.length_append, FRL, FRL, List.append_nil] at this
      omega)
    exact ⟨t, ht, rest n hn t hq⟩
  · rw [show ((0 : Nat) : Int) = 0 from rfl, he0]
    omega

end Go.Proofs.Yticnbjfmjhdjoaa.Pure
