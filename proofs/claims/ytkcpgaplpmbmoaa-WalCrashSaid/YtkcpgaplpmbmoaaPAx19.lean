/- A log on a disk, walked by hand; Lean checks it. -/
import Derived.Test.YtkcpgaplpmbmoaaPAx16
import Derived.Test.YtkcpgaplpmbmoaaNum
namespace Go.Proofs.Ytkcpgaplpmbmoaa.PA
open Go.RowKit Go.Proofs.YtkcpgaplpmbmoaaW.PrintWords Go.Proofs.YtkcpgaplpmbmoaaW.PrintLast Go.Proofs.YtkcpgaplpmbmoaaW.PrintMore
attribute [local go_sem] max2_int min2_int max_two min_two max_three min_three max_four min_four
set_option linter.unusedVariables false
set_option linter.unusedSimpArgs false

open Go.Proofs.Ytkcpgaplpmbmoaa.Num
/-- A number's form. -/
def Nm (n : Int) : ByteArray := strOfNums (numS n.toNat)
theorem nm_bytes (n : Int) : bytesOf (Nm n) = numS n.toNat := bytesOf_nums _ (numS_byte _)
theorem nm_size (n : Int) : (Nm n).size = (numS n.toNat).length := by rw [← size_bytesOf, nm_bytes]
theorem nm_ten (n : Int) (h : 0 ≤ n ∧ n < 18446744073709551616) : 1 ≤ (Nm n).size ∧ (Nm n).size ≤ 10 := by
  rw [nm_size]
  exact ⟨numS_pos _, numS_ten _ (by omega)⟩
theorem number_loop (n : Nat) : ∀ acc : List Int, acc.length + (numS n).length ≤ 1000 → Ev (fun k => pack_Number.l0 k (n : Int) acc) (strOfNums (acc ++ numS n)) := by
  induction n using Nat.strongRecOn with
  | _ n ih =>
    intro acc hl
    have hp := numS_pos n
    by_cases h : n < 128
    · refine Ev.step (f := fun _ => some (strOfNums (acc ++ numS n))) (fun k => ?_) (Ev.now _)
      simp only [pack_Number.l0]
      rw [if_neg (by omega), if_pos (by omega), numS_small h]
      congr 4
      omega
    · have e := numS_big h
      rw [e, List.length_cons] at hl
      have := ih (n / 128) (by omega) (acc ++ [((n % 128 + 128 : Nat) : Int)]) (by rw [List.length_append, List.length_singleton]; omega)
      rw [e]
      rw [List.append_assoc, List.singleton_append] at this
      refine Ev.step (fun k => ?_) this
      simp only [pack_Number.l0]
      rw [if_pos (by omega), if_pos (by omega), or128 _ (by omega)]
      have q1 : (n : Int) / 128 = ((n / 128 : Nat) : Int) := by omega
      have q2 : (n : Int) % 256 % 128 + 128 = ((n % 128 + 128 : Nat) : Int) := by omega
      rw [q1, q2]
theorem number_ev (n : Int) (h : 0 ≤ n ∧ n < 18446744073709551616) : Ev (fun k => pack_Number.f k n) (Nm n) := by
  obtain ⟨m, rfl⟩ := Int.eq_ofNat_of_zero_le h.1
  have := number_loop m [] (by have := numS_ten m (by omega); simp; omega)
  rw [List.nil_append] at this
  exact this
/-- A text's form. -/
def Tx (s : ByteArray) : ByteArray := Nm (s.size : Int) ++ s
theorem size_app (s t : ByteArray) : (s ++ t).size = s.size + t.size := by
  rw [← size_bytesOf, bytesOf_append, List.length_append, size_bytesOf, size_bytesOf]
theorem tx_size (s : ByteArray) (h : s.size ≤ 140737488351232) : (Tx s).size ≤ s.size + 10 := by
  unfold Tx
  have := (nm_ten (s.size : Int) (by omega)).2
  rw [size_app]; omega
theorem text_ev (s : ByteArray) (h : s.size ≤ 140737488351232) : Ev (fun k => pack_Text.f k s) (Tx s) := by
  have hn := nm_ten (s.size : Int) (by omega)
  have hu := uw (s.size : Int) (by omega)
  unfold pack_Text.f
  rw [hu]
  refine Ev.bind (number_ev (s.size : Int) (by omega)) ?_
  refine Ev.congr (f := fun _ => some (Tx s)) (fun k => ?_) (Ev.now _)
  rw [if_pos (by omega)]
  rfl
/-- Texts, one behind the other. -/
def cat : List ByteArray → ByteArray
  | [] => ByteArray.empty
  | s :: l => s ++ cat l
theorem drop_rdOf (l : List ByteArray) (i : Nat) (h : i < l.length) : l.drop i = rdOf ByteArray.empty l (i : Int) :: l.drop (i + 1) := by
  rw [List.drop_eq_getElem_cons h]
  congr 1
  unfold rdOf
  simp [List.getD_eq_getElem?_getD, List.getElem?_eq_getElem h]
theorem app_assoc (a b c : ByteArray) : a ++ b ++ c = a ++ (b ++ c) := bytesOf_inj (by simp only [bytesOf_append, List.append_assoc])
theorem app_empty (a : ByteArray) : a ++ ByteArray.empty = a := bytesOf_inj (by simp only [bytesOf_append, bytesOf_empty, List.append_nil])
/-! The register, as 64 bits. -/
def I64 (x : BitVec 64) : Int := (x.toNat : Int)
def B64 (n : Int) : BitVec 64 := BitVec.ofNat 64 n.toNat
theorem i64_range (x : BitVec 64) : 0 ≤ I64 x ∧ I64 x < 18446744073709551616 := by
  have := x.isLt
  unfold I64
  omega
theorem i64_b64 (n : Int) (h : 0 ≤ n ∧ n < 18446744073709551616) : I64 (B64 n) = n := by
  unfold I64 B64
  rw [BitVec.toNat_ofNat]
  omega
theorem b64_i64 (x : BitVec 64) : B64 (I64 x) = x := by
  unfold I64 B64
  rw [Int.toNat_natCast, BitVec.ofNat_toNat]
  simp
theorem i64_inj {x y : BitVec 64} (h : I64 x = I64 y) : x = y := by rw [← b64_i64 x, h, b64_i64]
theorem ofInt_i64 (x : BitVec 64) : BitVec.ofInt 64 (I64 x) = x := by
  unfold I64
  rw [BitVec.ofInt_natCast, BitVec.ofNat_toNat]
  simp
theorem xor_is (x y : BitVec 64) : Go.bits .xor .u64 (I64 x) (I64 y) = I64 (x ^^^ y) := by
  have h : Go.bits .xor .u64 (I64 x) (I64 y) = IntKind.u64.wrap (((BitVec.ofInt 64 (I64 x) ^^^ BitVec.ofInt 64 (I64 y)).toNat : Nat) : Int) := rfl
  rw [h, ofInt_i64, ofInt_i64]
  exact uw _ (i64_range _)
theorem and_is (x y : BitVec 64) : Go.bits .and .u64 (I64 x) (I64 y) = I64 (x &&& y) := by
  have h : Go.bits .and .u64 (I64 x) (I64 y) = IntKind.u64.wrap (((BitVec.ofInt 64 (I64 x) &&& BitVec.ofInt 64 (I64 y)).toNat : Nat) : Int) := rfl
  rw [h, ofInt_i64, ofInt_i64]
  exact uw _ (i64_range _)
theorem div16_is (x : BitVec 64) : I64 x / (16 : Int) = I64 (x >>> (4 : Nat)) := by
  unfold I64
  rw [BitVec.toNat_ushiftRight, Nat.shiftRight_eq_div_pow]
  omega
theorem div2_is (x : BitVec 64) : I64 x / (2 : Int) = I64 (x >>> (1 : Nat)) := by
  unfold I64
  rw [BitVec.toNat_ushiftRight, Nat.shiftRight_eq_div_pow]
  omega
/-- The polynomial. -/
def poly : BitVec 64 := 14514072000185962306#64
/-- One bit's step. -/
def st (x : BitVec 64) : BitVec 64 := (x >>> 1) ^^^ (if x.getLsbD 0 = true then poly else 0#64)
theorem st_xor (x y : BitVec 64) : st (x ^^^ y) = st x ^^^ st y := by
  unfold st
  rw [BitVec.ushiftRight_xor_distrib, BitVec.getLsbD_xor]
  cases x.getLsbD 0 <;> cases y.getLsbD 0 <;> simp
  · rw [BitVec.xor_assoc]
  · rw [BitVec.xor_assoc, BitVec.xor_assoc, BitVec.xor_comm (y >>> 1) poly]
  · rw [BitVec.xor_assoc (x >>> 1), BitVec.xor_comm poly, BitVec.xor_assoc (y >>> 1), BitVec.xor_self, BitVec.xor_zero]
def stn : Nat → BitVec 64 → BitVec 64
  | 0, x => x
  | n + 1, x => st (stn n x)
theorem stn_xor (n : Nat) (x y : BitVec 64) : stn n (x ^^^ y) = stn n x ^^^ stn n y := by
  induction n with
  | zero => rfl
  | succ n ih => rw [stn, ih, st_xor]; rfl
theorem stn_add (m n : Nat) (x : BitVec 64) : stn m (stn n x) = stn (m + n) x := by
  induction m with
  | zero => rw [Nat.zero_add]; rfl
  | succ m ih => rw [show m + 1 + n = (m + n) + 1 by omega, stn, ih]; rfl
theorem st_even (x : BitVec 64) (h : x.getLsbD 0 = false) : st x = x >>> 1 := by
  unfold st
  rw [h]
  simp
theorem stn_shift (n : Nat) (x : BitVec 64) (h : ∀ i, i < n → x.getLsbD i = false) : stn n x = x >>> n := by
  induction n with
  | zero => simp [stn]
  | succ n ih =>
    rw [stn, ih (fun i hi => h i (by omega)), st_even]
    · rw [BitVec.shiftRight_add]
    · rw [BitVec.getLsbD_ushiftRight, Nat.add_zero]
      exact h n (by omega)
theorem low_high (x : BitVec 64) : x = (x &&& 15#64) ^^^ (x &&& ~~~15#64) := by
  ext i hi
  simp only [BitVec.getElem_xor, BitVec.getElem_and, BitVec.getElem_not]
  cases x[i] <;> cases (15#64)[i] <;> rfl
theorem high_low (x : BitVec 64) : ∀ i, i < 4 → (x &&& ~~~15#64).getLsbD i = false := by
  intro i hi
  have : (~~~15#64).getLsbD i = false := by
    match i with
    | 0 | 1 | 2 | 3 => decide
    | i + 4 => omega
  rw [BitVec.getLsbD_and, this, Bool.and_false]
theorem high_shift (x : BitVec 64) : (x &&& ~~~15#64) >>> 4 = x >>> 4 := by
  rw [BitVec.ushiftRight_and_distrib]
  have : ((~~~15#64) >>> 4 : BitVec 64) = 1152921504606846975#64 := by decide
  rw [this]
  apply BitVec.eq_of_toNat_eq
  rw [BitVec.toNat_and, BitVec.toNat_ushiftRight, Nat.shiftRight_eq_div_pow]
  have h := x.isLt
  have e : (1152921504606846975#64).toNat = 2 ^ 60 - 1 := by decide
  rw [e, Nat.and_two_pow_sub_one_eq_mod, Nat.mod_eq_of_lt (by omega)]
theorem tab_is : ∀ n : Fin 16, rd seal_tab (n.val : Int) = I64 (stn 4 (BitVec.ofNat 64 n.val)) := by decide +kernel
theorem half_is (x : BitVec 64) : seal_half (I64 x) = I64 (stn 4 x) := by
  unfold seal_half
  have e15 : (15 : Int) = I64 15#64 := rfl
  rw [e15, and_is, div16_is]
  have hlt : (x &&& 15#64).toNat < 16 := by
    rw [BitVec.toNat_and]
    have : x.toNat &&& (15#64).toNat ≤ (15#64).toNat := Nat.and_le_right
    have e : (15#64).toNat = 15 := by decide
    omega
  have h := tab_is ⟨(x &&& 15#64).toNat, hlt⟩
  have h2 : BitVec.ofNat 64 (x &&& 15#64).toNat = x &&& 15#64 := by rw [BitVec.ofNat_toNat]; simp
  rw [h2] at h
  rw [show rd seal_tab (I64 (x &&& 15#64)) = I64 (stn 4 (x &&& 15#64)) from h]
  rw [xor_is]
  congr 1
  conv => rhs; rw [low_high x]
  rw [stn_xor, stn_shift 4 _ (high_low x), high_shift, BitVec.xor_comm]
/-- One byte. -/
def inB (r : BitVec 64) (c : Int) : BitVec 64 := stn 8 (r ^^^ B64 c)
def crc (r : BitVec 64) (l : List Int) : BitVec 64 := l.foldl inB r
/-- The sum of bytes. -/
def sumS (l : List Int) : Int := I64 (~~~ crc (BitVec.allOnes 64) l)
theorem max_is : Go.IntKind.u64.max = I64 (BitVec.allOnes 64) := by decide
theorem not_is (x : BitVec 64) : Go.bits .xor .u64 Go.IntKind.u64.max (I64 x) = I64 (~~~ x) := by
  rw [max_is, xor_is, BitVec.allOnes_xor]
theorem byte_is (x : BitVec 64) (c : Int) (hc : 0 ≤ c ∧ c ≤ 255) : seal_half (seal_half (Go.bits .xor .u64 (I64 x) (IntKind.u64.wrap c))) = I64 (inB x c) := by
  have e : c = I64 (B64 c) := (i64_b64 c (by omega)).symm
  rw [uw c (by omega)]
  conv => lhs; rw [e]
  rw [xor_is, half_is, half_is, stn_add]
  rfl
theorem inner_loop (l : List ByteArray) (s : ByteArray) (hs : s.size ≤ 140737488351232) (i : Int) (res : Int) (d : Nat) : ∀ (j : Nat) (x : BitVec 64), j + d = s.size →
    Ev (fun k => seal_Sum.l0 k l (I64 (crc x ((bytesOf s).drop j))) (wrap64 (i + 1))) res → Ev (fun k => seal_Sum.l1 k l s (I64 x) i (j : Int)) res := by
  induction d with
  | zero =>
    intro j x hj h
    rw [List.drop_eq_nil_of_le (by rw [bytesOf_length]; omega)] at h
    refine Ev.step (fun k => ?_) h
    rw [seal_Sum.l1, if_neg (by omega)]
    rfl
  | succ d ih =>
    intro j x hj h
    have hd : (bytesOf s).drop j = bt s (j : Int) :: (bytesOf s).drop (j + 1) := by
      rw [List.drop_eq_getElem_cons (by rw [bytesOf_length]; omega), bt_nat s j (by omega)]
    rw [hd] at h
    refine Ev.step (fun k => ?_) (ih (j + 1) (inB x (bt s (j : Int))) (by omega) h)
    rw [seal_Sum.l1, if_pos (by omega), if_pos (by omega), byte_is x _ (bt_range s _), wr _ (by omega)]
    rfl
theorem sum_loop (l : List ByteArray) (hr : ∀ s ∈ l, s.size ≤ 140737488351232) (hl : l.length ≤ 140737488351232) (d : Nat) : ∀ (i : Nat) (x : BitVec 64), i + d = l.length →
    Ev (fun k => seal_Sum.l0 k l (I64 x) (i : Int)) (I64 (~~~ crc x (bytesOf (cat (l.drop i))))) := by
  induction d with
  | zero =>
    intro i x hi
    refine Ev.step (f := fun _ => some (I64 (~~~ crc x (bytesOf (cat (l.drop i)))))) (fun k => ?_) (Ev.now _)
    rw [seal_Sum.l0, if_neg (by omega), not_is, List.drop_eq_nil_of_le (by omega), cat, bytesOf_empty]
    rfl
  | succ d ih =>
    intro i x hi
    have hd := drop_rdOf l i (by omega)
    have hm : rdOf ByteArray.empty l (i : Int) ∈ l := List.mem_of_mem_drop (by rw [hd]; exact List.mem_cons_self ..)
    refine Ev.step (fun k => by rw [seal_Sum.l0, if_pos (by omega), if_pos (by omega)]) ?_
    refine inner_loop l (rdOf ByteArray.empty l (i : Int)) (hr _ hm) (i : Int) _ (rdOf ByteArray.empty l (i : Int)).size 0 x (by omega) ?_
    rw [List.drop_zero, hd, cat, bytesOf_append, wr _ (by omega)]
    have := ih (i + 1) (crc x (bytesOf (rdOf ByteArray.empty l (i : Int)))) (by omega)
    rw [show crc x (bytesOf (rdOf ByteArray.empty l (i : Int)) ++ bytesOf (cat (l.drop (i + 1)))) = crc (crc x (bytesOf (rdOf ByteArray.empty l (i : Int)))) (bytesOf (cat (l.drop (i + 1)))) from List.foldl_append]
    exact this
theorem sum_ev (l : List ByteArray) (hr : ∀ s ∈ l, s.size ≤ 140737488351232) (hl : l.length ≤ 140737488351232) : Ev (fun k => seal_Sum.f k l) (sumS (bytesOf (cat l))) := by
  have := sum_loop l hr hl l.length 0 (BitVec.allOnes 64) (by omega)
  rw [List.drop_zero] at this
  exact this
/-- What is taken at a place: the number, the place behind, the error. -/
def TN (s : ByteArray) (at_ : Int) : Int × Int × Int :=
  if at_ < 0 ∨ at_ > (s.size : Int) then (0, 0, 2) else
    ((tnS ((bytesOf s).drop at_.toNat) 0 0).1, (if (tnS ((bytesOf s).drop at_.toNat) 0 0).2.2 = 0 then at_ + (tnS ((bytesOf s).drop at_.toNat) 0 0).2.1 else 0), (tnS ((bytesOf s).drop at_.toNat) 0 0).2.2)
def rel (a : Int) (r : Int × Int × Int) : Int × Int × Int := (r.1, (if r.2.2 = 0 then a + r.2.1 else 0), r.2.2)
theorem rel_err (a e : Int) (h : e ≠ 0) : rel a (0, 0, e) = (0, 0, e) := by unfold rel; rw [if_neg h]
theorem rel_ok (a n c : Int) : rel a (n, c, 0) = (n, a + c, 0) := by unfold rel; rw [if_pos rfl]
theorem tnS_nil (i : Nat) (n : Int) : tnS [] i n = if i < 10 then (0, 0, 10) else (0, 0, 11) := rfl
theorem tnS_cons (c : Int) (l : List Int) (i : Nat) (n : Int) : tnS (c :: l) i n = if 10 ≤ i then (0, 0, 11) else if i = 9 ∧ c > 1 then (0, 0, 11) else if c ≥ 128 then tnS l (i + 1) (n + c % 128 * 128 ^ i) else if c = 0 ∧ i > 0 then (0, 0, 11) else (n + c * 128 ^ i, i + 1, 0) := rfl
theorem pow7 (i : Nat) : (2 : Int) ^ (7 * i) = 128 ^ i := by rw [Int.pow_mul]; rfl
theorem pow7n (i : Nat) : (2 : Nat) ^ (7 * i) = 128 ^ i := by rw [Nat.pow_mul]
theorem pow_le (i : Nat) (h : i ≤ 9) : (128 : Nat) ^ i ≤ 9223372036854775808 := by
  have := Nat.pow_le_pow_right (show 0 < 128 by decide) h
  have e : (128 : Nat) ^ 9 = 9223372036854775808 := by decide
  omega
/-- Seven bits more. -/
theorem or_more (n c : Int) (i : Nat) (hi : i ≤ 9) (hn : 0 ≤ n ∧ n < 128 ^ i) (hc : 0 ≤ c ∧ c < 256) (h9 : i = 9 → c ≤ 1) :
    Go.bits .or .u64 n (shl .u64 (IntKind.u64.wrap (Go.bits .and .u8 c 127)) (IntKind.u64.wrap (wrap64 (7 * (i : Int))))) = n + c % 128 * 128 ^ i := by
  rw [and127 c hc, uw (c % 128) (by omega), wr (7 * (i : Int)) (by omega), uw (7 * (i : Int)) (by omega)]
  unfold shl
  have e1 : min (7 * (i : Int)).toNat IntKind.u64.bits = 7 * i := by simp [IntKind.bits]; omega
  rw [e1, pow7]
  obtain ⟨m, rfl⟩ := Int.eq_ofNat_of_zero_le hn.1
  obtain ⟨d, hd⟩ := Int.eq_ofNat_of_zero_le (show 0 ≤ c % 128 by omega)
  rw [hd]
  have hp := pow_le i hi
  have hm : m < 128 ^ i := by
    have := hn.2
    have q : ((128 ^ i : Nat) : Int) = (128 : Int) ^ i := by simp
    omega
  have hq : ((d * 128 ^ i : Nat) : Int) = (d : Int) * 128 ^ i := by simp
  have hy : d * 128 ^ i < 18446744073709551616 := by
    by_cases h : i = 9
    · have := h9 h
      have hd1 : d ≤ 1 := by omega
      have : d * 128 ^ i ≤ 1 * 128 ^ i := Nat.mul_le_mul_right _ hd1
      omega
    · have h8 : (128 : Nat) ^ i ≤ 128 ^ 8 := Nat.pow_le_pow_right (by decide) (by omega)
      have e8 : (128 : Nat) ^ 8 = 72057594037927936 := by decide
      have : d * 128 ^ i ≤ 127 * 72057594037927936 := Nat.mul_le_mul (by omega) (by omega)
      omega
  rw [← hq, uw _ (by omega)]
  exact or_join m (d * 128 ^ i) (7 * i) (by rw [pow7n]; exact hm) (by rw [pow7n]; exact Nat.mul_mod_left _ _) (by omega) (by omega)
theorem rd_drop_bt (s : ByteArray) (a : Nat) (h : a < s.size) : (bytesOf s).drop a = bt s (a : Int) :: (bytesOf s).drop (a + 1) := by
  rw [drop_cons _ a (by rw [bytesOf_length]; exact h), rd_bytesOf]
theorem take_loop (s : ByteArray) (hs : s.size ≤ 140737488351232) (a d : Nat) : ∀ (i : Nat) (n : Int), i + d = 10 → a + i ≤ s.size → 0 ≤ n → n < 128 ^ i →
    Ev (fun k => pack_TakeNumber.l0 k s (a : Int) n (i : Int)) (rel (a : Int) (tnS ((bytesOf s).drop (a + i)) i n)) := by
  induction d with
  | zero =>
    intro i n hi ha h0 h1
    refine Ev.step (f := fun _ => some (0, 0, 11)) (fun k => ?_) ?_
    · simp only [pack_TakeNumber.l0]
      rw [if_neg (by omega)]
    · have : rel (a : Int) (tnS ((bytesOf s).drop (a + i)) i n) = (0, 0, 11) := by
        cases (bytesOf s).drop (a + i) with
        | nil => rw [tnS_nil, if_neg (by omega), rel_err _ _ (by decide)]
        | cons c l => rw [tnS_cons, if_pos (by omega), rel_err _ _ (by decide)]
      rw [this]
      exact Ev.now _
  | succ d ih =>
    intro i n hi ha h0 h1
    have w1 : wrap64 ((a : Int) + (i : Int)) = ((a + i : Nat) : Int) := by unfold wrap64; omega
    have w2 : wrap64 ((i : Int) + 1) = ((i + 1 : Nat) : Int) := by unfold wrap64; omega
    have hz : IntKind.u64.wrap (wrap64 (7 * (i : Int))) = 7 * (i : Int) := by rw [wr _ (by omega), uw _ (by omega)]
    by_cases c0 : a + i = s.size
    · refine Ev.step (f := fun _ => some (0, 0, 10)) (fun k => ?_) ?_
      · simp only [pack_TakeNumber.l0]
        rw [if_pos (by omega), w1, if_pos (by omega)]
      · rw [List.drop_eq_nil_of_le (by rw [bytesOf_length]; omega)]
        rw [tnS_nil, if_pos (by omega), rel_err _ _ (by decide)]
        exact Ev.now _
    · have hb := bt_range s ((a + i : Nat) : Int)
      rw [rd_drop_bt s (a + i) (by omega)]
      obtain ⟨c, hc⟩ : ∃ c, bt s ((a + i : Nat) : Int) = c := ⟨_, rfl⟩
      rw [hc] at hb ⊢
      have head : ∀ k, pack_TakeNumber.l0 (k + 1) s (a : Int) n (i : Int) = pack_TakeNumber.j2 k s (a : Int) n (i : Int) c (i : Int) (decide (i = 9 ∧ c > 1)) := fun k => by
        simp only [pack_TakeNumber.l0]
        rw [if_pos (by omega), w1, if_neg (by omega), if_pos (by omega), if_pos (by omega), hc]
        by_cases h9 : i = 9
        · rw [if_pos (by omega)]
          congr 1
          simp [h9]
        · rw [if_neg (by omega)]
          congr 1
          simp [h9]
      by_cases c1 : i = 9 ∧ c > 1
      · refine ev_shift 2 (f := fun _ => some (0, 0, 11)) (fun k => ?_) ?_
        · rw [head, decide_eq_true c1, pack_TakeNumber.j2, if_pos rfl]
        · rw [tnS_cons, if_neg (by omega), if_pos c1, rel_err _ _ (by decide)]
          exact Ev.now _
      · have hm := or_more n c i (by omega) ⟨h0, h1⟩ ⟨hb.1, by omega⟩ (fun h => by omega)
        by_cases c2 : c ≥ 128
        · have hlt : n + c % 128 * 128 ^ i < 128 ^ (i + 1) := by
            have p0 : (0 : Int) ≤ 128 ^ i := by omega
            have : c % 128 * 128 ^ i ≤ 127 * 128 ^ i := Int.mul_le_mul_of_nonneg_right (by omega) p0
            rw [Int.pow_succ]
            omega
          have hge : 0 ≤ n + c % 128 * 128 ^ i := by
            have p0 : (0 : Int) ≤ 128 ^ i := by omega
            have : 0 ≤ c % 128 * 128 ^ i := Int.mul_nonneg (by omega) p0
            omega
          have := ih (i + 1) (n + c % 128 * 128 ^ i) (by omega) (by omega) hge hlt
          rw [tnS_cons, if_neg (by omega), if_neg c1, if_pos c2]
          refine ev_shift 2 (fun k => ?_) this
          rw [head, decide_eq_false c1, pack_TakeNumber.j2, if_neg (by simp), hz, if_pos (by omega), if_pos c2, ← hz, hm, w2]
        · have h128 : c % 128 = c := by omega
          rw [h128] at hm
          rw [tnS_cons, if_neg (by omega), if_neg c1, if_neg c2]
          by_cases c3 : c = 0 ∧ i > 0
          · rw [if_pos c3, rel_err _ _ (by decide)]
            refine ev_shift 2 (f := fun _ => some (0, 0, 11)) (fun k => ?_) (Ev.now _)
            rw [head, decide_eq_false c1, pack_TakeNumber.j2, if_neg (by simp), hz, if_pos (by omega), if_neg c2, if_pos c3.1, if_pos (by omega)]
          · rw [if_neg c3, rel_ok]
            have w3 : wrap64 ((wrap64 ((a : Int) + (i : Int))) + 1) = (a : Int) + ((i : Int) + 1) := by rw [w1]; unfold wrap64; omega
            refine ev_shift 2 (f := fun _ => some (n + c * 128 ^ i, (a : Int) + ((i : Int) + 1), 0)) (fun k => ?_) ?_
            · rw [head, decide_eq_false c1, pack_TakeNumber.j2, if_neg (by simp), if_pos (by rw [hz]; omega), if_neg c2, hm, w3]
              by_cases c4 : c = 0
              · rw [if_pos c4, if_neg (by omega)]
              · rw [if_neg c4]
            · exact Ev.now _
theorem take_ev (s : ByteArray) (hs : s.size ≤ 140737488351232) (a : Int) : Ev (fun k => pack_TakeNumber.f k s a) (TN s a) := by
  have bad : Ev (fun k => pack_TakeNumber.j0 k s a true) (0, 0, 2) := Ev.step (f := fun _ => some (0, 0, 2)) (fun k => by simp only [pack_TakeNumber.j0, if_true]) (Ev.now _)
  by_cases c1 : a < 0
  · have : TN s a = (0, 0, 2) := if_pos (.inl c1)
    rw [this]
    exact Ev.congr (fun k => by unfold pack_TakeNumber.f; rw [if_pos c1]) bad
  by_cases c2 : a > (s.size : Int)
  · have : TN s a = (0, 0, 2) := if_pos (.inr c2)
    rw [this]
    exact Ev.congr (fun k => by unfold pack_TakeNumber.f; rw [if_neg c1, decide_eq_true c2]) bad
  obtain ⟨m, rfl⟩ := Int.eq_ofNat_of_zero_le (show 0 ≤ a by omega)
  have : TN s (m : Int) = rel (m : Int) (tnS ((bytesOf s).drop (m + 0)) 0 0) := if_neg (by omega)
  rw [this]
  refine Ev.congr (f := fun k => pack_TakeNumber.j0 k s (m : Int) false) (fun k => by unfold pack_TakeNumber.f; rw [if_neg c1, decide_eq_false c2]) ?_
  refine Ev.step (fun k => ?_) (take_loop s hs m 10 0 0 (by omega) (by omega) (by omega) (by decide))
  simp only [pack_TakeNumber.j0, Bool.false_eq_true, if_false]
  rfl
theorem tn_facts (s : ByteArray) (hs : s.size ≤ 140737488351232) (a : Int) : (TN s a).2.2 ≠ 0 ∧ (TN s a).1 = 0 ∧ (TN s a).2.1 = 0 ∨ (TN s a).2.2 = 0 ∧ 0 ≤ (TN s a).1 ∧ (TN s a).1 < 18446744073709551616 ∧ 0 ≤ a ∧ a < (TN s a).2.1 ∧ (TN s a).2.1 ≤ (s.size : Int) := by
  by_cases c : a < 0 ∨ a > (s.size : Int)
  · have : TN s a = (0, 0, 2) := if_pos c
    rw [this]; left; simp
  · have e : TN s a = rel a (tnS ((bytesOf s).drop a.toNat) 0 0) := if_neg c
    rw [e]
    rcases tnS_err ((bytesOf s).drop a.toNat) 0 0 with h | ⟨h1, h2, h3⟩
    · right
      obtain ⟨m, r, h4, h5, h6, h7, h8⟩ := tnS_ok _ (fun x hx => bytesOf_byte s x (List.mem_of_mem_drop hx)) h
      rw [h7]
      have hl := congrArg List.length h4
      rw [List.length_drop, bytesOf_length, List.length_append] at hl
      have hp : 1 ≤ m.length := by
        match m, h5 with
        | [], h5 => exact absurd h5 (by simp [Canon])
        | x :: m, _ => simp
      have hv := valS_nonneg m
      rw [rel_ok]
      exact ⟨rfl, hv, h8, by show 0 ≤ a; omega, by show a < a + (m.length : Int); omega, by show a + (m.length : Int) ≤ _; omega⟩
    · left
      have h4 : (tnS ((bytesOf s).drop a.toNat) 0 0).2.2 ≠ 0 := by omega
      exact ⟨h4, h1, if_neg h4⟩
/-! Frames: what Seal makes, what Open tells. -/
abbrev E0 : ByteArray := ⟨#[]⟩
def eightS (n : Int) : List Int := [n % 256, n / 256 % 256, n / 65536 % 256, n / 16777216 % 256, n / 4294967296 % 256, n / 1099511627776 % 256, n / 281474976710656 % 256, n / 72057594037927936 % 256]
theorem eightS_byte (n : Int) : ∀ x ∈ eightS n, Byte x := by
  intro x hx
  unfold eightS at hx
  simp only [List.mem_cons, List.not_mem_nil, or_false] at hx
  unfold Byte
  omega
def eightB (n : Int) : ByteArray := strOfNums (eightS n)
theorem eightB_bytes (n : Int) : bytesOf (eightB n) = eightS n := bytesOf_nums _ (eightS_byte n)
theorem eightB_size (n : Int) : (eightB n).size = 8 := by rw [← size_bytesOf, eightB_bytes]; rfl
/-- A frame without its sum. -/
def hdB (v : Int) (body : ByteArray) : ByteArray := strOfNums [231, v % 256] ++ Tx body
theorem hd_two (v : Int) : bytesOf (strOfNums [231, v % 256]) = [231, v % 256] := by
  refine bytesOf_nums _ (fun x hx => ?_)
  simp only [List.mem_cons, List.not_mem_nil, or_false] at hx
  unfold Byte
  omega
theorem hd_bytes (v : Int) (body : ByteArray) : bytesOf (hdB v body) = 231 :: v % 256 :: (numS body.size ++ bytesOf body) := by
  unfold hdB Tx
  rw [bytesOf_append, bytesOf_append, hd_two, nm_bytes, Int.toNat_natCast]
  rfl
theorem two_size (v : Int) : (strOfNums [231, v % 256]).size = 2 := by rw [← size_bytesOf, hd_two]; rfl
theorem hd_size (v : Int) (body : ByteArray) (h : body.size ≤ 140737488351232) : (hdB v body).size ≤ body.size + 12 := by
  unfold hdB
  rw [size_app, two_size]
  have := tx_size body h
  omega
def SEAL (v : Int) (body : ByteArray) : ByteArray × Int :=
  if v < 0 ∨ v > 255 then (E0, 2) else if (body.size : Int) > 30000 then (E0, 3) else (hdB v body ++ eightB (sumS (bytesOf (hdB v body))), 0)
theorem cat_one (s : ByteArray) : cat [s] = s := by simp only [cat]; exact app_empty s
theorem seal_ev (v : Int) (body : ByteArray) : Ev (fun k => seal_Seal.f k v body) (SEAL v body) := by
  have bad : Ev (fun k => seal_Seal.j0 k v body true) (E0, 2) := Ev.step (f := fun _ => some (E0, 2)) (fun k => by rw [seal_Seal.j0, if_pos rfl]) (Ev.now _)
  unfold seal_Seal.f SEAL
  by_cases c1 : v < 0
  · rw [if_pos (.inl c1)]
    exact Ev.congr (fun k => if_pos c1) bad
  · refine Ev.congr (fun k => if_neg c1) ?_
    by_cases c2 : v > 255
    · rw [if_pos (.inr c2), decide_eq_true c2]
      exact bad
    · rw [if_neg (by omega), decide_eq_false c2]
      by_cases c3 : (body.size : Int) > 30000
      · rw [if_pos c3]
        exact Ev.step (f := fun _ => some (E0, 3)) (fun k => by rw [seal_Seal.j0, if_neg (by decide), if_pos c3]) (Ev.now _)
      · rw [if_neg c3]
        have ht := tx_size body (by omega)
        have h2 := two_size v
        have hh := hd_size v body (by omega)
        refine Ev.step (fun k => by rw [seal_Seal.j0, if_neg (by decide), if_neg c3]) ?_
        simp only [Option.bind_some]
        refine Ev.bind (text_ev body (by omega)) ?_
        refine Ev.congr (fun k => if_pos (by omega)) ?_
        have hs := sum_ev [hdB v body] (fun s hs => by rw [List.mem_singleton] at hs; subst hs; omega) (by simp)
        rw [cat_one] at hs
        refine Ev.bind hs ?_
        have h8 : seal_eight.f (sumS (bytesOf (hdB v body))) = some (eightB (sumS (bytesOf (hdB v body)))) := rfl
        have h9 := eightB_size (sumS (bytesOf (hdB v body)))
        have hx : (strOfNums [231, v % 256] ++ Tx body).size ≤ body.size + 12 := hh
        refine Ev.congr (f := fun _ => some (hdB v body ++ eightB (sumS (bytesOf (hdB v body))), 0)) (fun k => ?_) (Ev.now _)
        rw [h8, Option.bind_some, if_pos (by omega)]
        rfl
/-- What Open tells. -/
def OP (s : ByteArray) (a v : Int) : ByteArray × Int × Int :=
  if a < 0 ∨ a > (s.size : Int) ∨ v < 0 ∨ v > 255 then (E0, 0, 2)
  else if a = (s.size : Int) then (E0, 0, 10)
  else if bt s a = 231 then
    if a + 1 = (s.size : Int) then (E0, 0, 10)
    else if bt s (a + 1) = v then
      if (TN s (a + 2)).2.2 = 0 then
        if (TN s (a + 2)).1 > 30000 then (E0, 0, 3)
        else if (TN s (a + 2)).1 + 8 > (s.size : Int) - (TN s (a + 2)).2.1 then (E0, 0, 10)
        else if eightB (sumS (bytesOf (s.extract a.toNat ((TN s (a + 2)).2.1 + (TN s (a + 2)).1).toNat))) = s.extract ((TN s (a + 2)).2.1 + (TN s (a + 2)).1).toNat ((TN s (a + 2)).2.1 + (TN s (a + 2)).1 + 8).toNat
        then (s.extract (TN s (a + 2)).2.1.toNat ((TN s (a + 2)).2.1 + (TN s (a + 2)).1).toNat, (TN s (a + 2)).2.1 + (TN s (a + 2)).1 + 8, 0) else (E0, 0, 22)
      else (E0, 0, (TN s (a + 2)).2.2)
    else (E0, 0, 21)
  else (E0, 0, 20)
theorem extract_size (s : ByteArray) (a b : Nat) : (s.extract a b).size ≤ s.size := by
  rw [← size_bytesOf, bytesOf_extract, List.length_drop, List.length_take, size_bytesOf]
  omega
theorem open_ev (s : ByteArray) (hs : s.size ≤ 1000000000) (a v : Int) : Ev (fun k => seal_Open.f k s a v) (OP s a v) := by
  have bad : Ev (fun k => seal_Open.j0 k s a v true) (E0, 0, 2) := Ev.step (f := fun _ => some (E0, 0, 2)) (fun k => by rw [seal_Open.j0, if_pos rfl]) (Ev.now _)
  unfold seal_Open.f
  by_cases c1 : a < 0
  · rw [show OP s a v = (E0, 0, 2) from if_pos (.inl c1)]
    exact Ev.congr (fun k => if_pos c1) bad
  refine Ev.congr (fun k => if_neg c1) ?_
  by_cases c2 : a > (s.size : Int)
  · rw [show OP s a v = (E0, 0, 2) from if_pos (.inr (.inl c2))]
    exact Ev.congr (fun k => if_pos c2) bad
  refine Ev.congr (fun k => if_neg c2) ?_
  by_cases c3 : v < 0
  · rw [show OP s a v = (E0, 0, 2) from if_pos (.inr (.inr (.inl c3)))]
    exact Ev.congr (fun k => if_pos c3) bad
  refine Ev.congr (fun k => if_neg c3) ?_
  by_cases c4 : v > 255
  · rw [show OP s a v = (E0, 0, 2) from if_pos (.inr (.inr (.inr c4))), decide_eq_true c4]
    exact bad
  rw [decide_eq_false c4]
  unfold OP
  rw [if_neg (by omega)]
  refine Ev.step (fun k => by rw [seal_Open.j0, if_neg (by decide)]) ?_
  by_cases c5 : a = (s.size : Int)
  · rw [if_pos c5]
    exact Ev.congr (fun k => if_pos c5) (Ev.now _)
  rw [if_neg c5]
  refine Ev.congr (fun k => by rw [if_neg c5, if_pos (by omega), if_pos (by omega)]) ?_
  by_cases c6 : bt s a = 231
  · rw [if_pos c6]
    refine Ev.congr (fun k => if_pos c6) ?_
    have w1 : wrap64 (a + 1) = a + 1 := wr _ (by omega)
    have w2 : wrap64 (a + 2) = a + 2 := wr _ (by omega)
    rw [w1, w2]
    by_cases c7 : a + 1 = (s.size : Int)
    · rw [if_pos c7]
      exact Ev.congr (fun k => if_pos c7) (Ev.now _)
    rw [if_neg c7]
    have hb := bt_range s (a + 1)
    rw [wr (bt s (a + 1)) (by omega)]
    refine Ev.congr (fun k => by rw [if_neg c7, if_pos (by omega), if_pos (by omega)]) ?_
    by_cases c8 : bt s (a + 1) = v
    · rw [if_pos c8]
      refine Ev.congr (fun k => if_pos c8) ?_
      refine Ev.bind (take_ev s (by omega) (a + 2)) ?_
      by_cases c9 : (TN s (a + 2)).2.2 = 0
      · rw [if_pos c9]
        refine Ev.congr (fun k => if_pos c9) ?_
        have hf := tn_facts s (by omega) (a + 2)
        rcases hf with hf | ⟨_, f1, f2, f3, f4, f5⟩
        · exact absurd c9 hf.1
        by_cases c10 : (TN s (a + 2)).1 > 30000
        · rw [if_pos c10]
          exact Ev.congr (fun k => if_pos c10) (Ev.now _)
        rw [if_neg c10]
        refine Ev.congr (fun k => if_neg c10) ?_
        rw [wr (TN s (a + 2)).1 (by omega), wr ((TN s (a + 2)).1 + 8) (by omega), wr ((s.size : Int) - (TN s (a + 2)).2.1) (by omega)]
        by_cases c11 : (TN s (a + 2)).1 + 8 > (s.size : Int) - (TN s (a + 2)).2.1
        · rw [if_pos c11]
          exact Ev.congr (fun k => if_pos c11) (Ev.now _)
        rw [if_neg c11]
        rw [wr ((TN s (a + 2)).2.1 + (TN s (a + 2)).1) (by omega), wr ((TN s (a + 2)).2.1 + (TN s (a + 2)).1 + 8) (by omega)]
        refine Ev.congr (fun k => by rw [if_neg c11, if_pos (by omega), if_pos (by omega)]) ?_
        have hsz := extract_size s a.toNat ((TN s (a + 2)).2.1 + (TN s (a + 2)).1).toNat
        have hsum := sum_ev [s.extract a.toNat ((TN s (a + 2)).2.1 + (TN s (a + 2)).1).toNat] (fun t ht => by rw [List.mem_singleton] at ht; subst ht; omega) (by simp)
        rw [cat_one] at hsum
        refine Ev.bind hsum ?_
        have h8 : ∀ n, seal_eight.f n = some (eightB n) := fun _ => rfl
        simp only [h8, Option.bind_some]
        refine Ev.congr (fun k => by rw [if_pos (by omega), if_pos (by omega), if_pos (by omega)]) ?_
        by_cases c12 : eightB (sumS (bytesOf (s.extract a.toNat ((TN s (a + 2)).2.1 + (TN s (a + 2)).1).toNat))) = s.extract ((TN s (a + 2)).2.1 + (TN s (a + 2)).1).toNat ((TN s (a + 2)).2.1 + (TN s (a + 2)).1 + 8).toNat
        · rw [if_pos c12]
          exact Ev.congr (fun k => by rw [if_pos (toList_iff.2 c12), if_pos (by omega), if_pos (by omega)]) (Ev.now _)
        · rw [if_neg c12]
          exact Ev.congr (fun k => if_neg (fun h => c12 (toList_iff.1 h))) (Ev.now _)
      · rw [if_neg c9]
        exact Ev.congr (fun k => if_neg c9) (Ev.now _)
    · rw [if_neg c8]
      exact Ev.congr (fun k => if_neg c8) (Ev.now _)
  · rw [if_neg c6]
    exact Ev.congr (fun k => if_neg c6) (Ev.now _)
/-! tests and rounds -/
theorem ev_ite {α : Type} {c : Prop} [Decidable c] {f g : Nat → Option α} {r : α} (h1 : c → Ev f r) (h2 : ¬ c → Ev g r) : Ev (fun k => if c then f k else g k) r := by
  by_cases hc : c
  · exact Ev.congr (fun k => if_pos hc) (h1 hc)
  · exact Ev.congr (fun k => if_neg hc) (h2 hc)
theorem ev_pos {α : Type} {c : Prop} [Decidable c] {f g : Nat → Option α} {r : α} (hc : c) (h1 : Ev f r) : Ev (fun k => if c then f k else g k) r := Ev.congr (fun k => if_pos hc) h1
theorem ev_neg {α : Type} {c : Prop} [Decidable c] {f g : Nat → Option α} {r : α} (hc : ¬ c) (h2 : Ev g r) : Ev (fun k => if c then f k else g k) r := Ev.congr (fun k => if_neg hc) h2
theorem ev_eq {α : Type} {f : Nat → Option α} {r r' : α} (h : Ev f r) (e : r = r') : Ev f r' := e ▸ h
/-! Frames, as lists of bytes: where one stands, Open tells it; and of what Open tells a frame stood there. -/
def VOK (v : Int) : Prop := 0 ≤ v ∧ v ≤ 255
/-- A frame's bytes. -/
def frB (v : Int) (body : ByteArray) : List Int := (231 :: v :: (numS body.size ++ bytesOf body)) ++ eightS (sumS (231 :: v :: (numS body.size ++ bytesOf body)))
def FR (v : Int) (body : ByteArray) : ByteArray := hdB v body ++ eightB (sumS (bytesOf (hdB v body)))
theorem hd_ok (v : Int) (hv : VOK v) (body : ByteArray) : bytesOf (hdB v body) = 231 :: v :: (numS body.size ++ bytesOf body) := by
  rw [hd_bytes, Int.emod_eq_of_lt hv.1 (by have := hv.2; omega)]
theorem fr_bytes (v : Int) (hv : VOK v) (body : ByteArray) : bytesOf (FR v body) = frB v body := by
  unfold FR frB
  rw [bytesOf_append, eightB_bytes, hd_ok v hv]
theorem frB_len (v : Int) (body : ByteArray) : (frB v body).length = 10 + (numS body.size).length + body.size := by
  unfold frB eightS
  simp [size_bytesOf]
  omega
theorem seal_ok (v : Int) (hv : VOK v) (body : ByteArray) (hb : (body.size : Int) ≤ 30000) : SEAL v body = (FR v body, 0) := by
  unfold SEAL
  have := hv.1
  have := hv.2
  rw [if_neg (by omega), if_neg (by omega)]
  rfl
theorem seal_bad (v : Int) (body : ByteArray) (h : ¬ (VOK v ∧ (body.size : Int) ≤ 30000)) : (SEAL v body).2 ≠ 0 := by
  unfold SEAL
  by_cases c : v < 0 ∨ v > 255
  · rw [if_pos c]
    decide
  · rw [if_neg c]
    have : (body.size : Int) > 30000 := by
      unfold VOK at h
      omega
    rw [if_pos this]
    decide
theorem bt_drop (s : ByteArray) (a : Nat) (l : List Int) (h : (bytesOf s).drop a = l) (i : Nat) (hi : i < l.length) : bt s ((a : Int) + (i : Int)) = l[i] := by
  have hl : l.length = s.size - a := by rw [← h, List.length_drop, size_bytesOf]
  have e : ((a : Int) + (i : Int)) = ((a + i : Nat) : Int) := by omega
  rw [e, bt_nat s (a + i) (by omega)]
  subst h
  rw [List.getElem_drop]
theorem tn_drop (s : ByteArray) (a : Nat) (l : List Int) (h : (bytesOf s).drop a = l) (hl : 2 ≤ l.length) : TN s ((a : Int) + 2) = ((tnS (l.drop 2) 0 0).1, (if (tnS (l.drop 2) 0 0).2.2 = 0 then (a : Int) + 2 + (tnS (l.drop 2) 0 0).2.1 else 0), (tnS (l.drop 2) 0 0).2.2) := by
  have hs : l.length = s.size - a := by rw [← h, List.length_drop, size_bytesOf]
  unfold TN
  rw [if_neg (by omega), show ((a : Int) + 2).toNat = a + 2 from by omega, ← h, List.drop_drop]
theorem ext_bytes (s : ByteArray) (a b n : Nat) (l : List Int) (h : (bytesOf s).drop a = l) (hb : b = a + n) : bytesOf (s.extract a b) = l.take n := by
  rw [bytesOf_extract, hb, List.drop_take, h]
  congr 1
  omega
theorem op_frame (s : ByteArray) (a : Nat) (v : Int) (hv : VOK v) (body : ByteArray) (hb : body.size ≤ 30000) (r : List Int) (h : (bytesOf s).drop a = frB v body ++ r) :
    OP s (a : Int) v = (body, (a : Int) + (frB v body).length, 0) := by
  have hfl := frB_len v body
  have hs : (frB v body ++ r).length = s.size - a := by rw [← h, List.length_drop, size_bytesOf]
  rw [List.length_append] at hs
  have hv0 := hv.1
  have hv1 := hv.2
  have hL : frB v body ++ r = 231 :: v :: (numS body.size ++ (bytesOf body ++ (eightS (sumS (231 :: v :: (numS body.size ++ bytesOf body))) ++ r))) := by
    unfold frB
    simp
  have h0 : bt s (a : Int) = 231 := by
    have := bt_drop s a _ h 0 (by rw [List.length_append]; omega)
    rw [show ((a : Int) + ((0 : Nat) : Int)) = (a : Int) by omega] at this
    rw [this]
    simp only [hL, List.getElem_cons_zero]
  have h1 : bt s ((a : Int) + 1) = v := by
    have := bt_drop s a _ h 1 (by rw [List.length_append]; omega)
    rw [show ((a : Int) + ((1 : Nat) : Int)) = (a : Int) + 1 by omega] at this
    rw [this]
    simp only [hL, List.getElem_cons_succ, List.getElem_cons_zero]
  have hd2 : (frB v body ++ r).drop 2 = numS body.size ++ (bytesOf body ++ (eightS (sumS (231 :: v :: (numS body.size ++ bytesOf body))) ++ r)) := by rw [hL]; rfl
  have hT := tn_drop s a _ h (by rw [List.length_append]; omega)
  rw [hd2, tnS_canon _ _ (canon_numS body.size) (by rw [valS_numS]; omega), valS_numS] at hT
  simp only [if_pos] at hT
  have e8 : (eightS (sumS (231 :: v :: (numS body.size ++ bytesOf body)))).length = 8 := rfl
  have x1 : bytesOf (s.extract a (a + (2 + (numS body.size).length + body.size))) = 231 :: v :: (numS body.size ++ bytesOf body) := by
    rw [ext_bytes s a _ _ _ h rfl]
    unfold frB
    rw [List.append_assoc, List.take_append_of_le_length (by simp [size_bytesOf]; omega), List.take_of_length_le (by simp [size_bytesOf]; omega)]
  have x2 : bytesOf (s.extract (a + (2 + (numS body.size).length + body.size)) (a + (2 + (numS body.size).length + body.size) + 8)) = eightS (sumS (231 :: v :: (numS body.size ++ bytesOf body))) := by
    have hd : (bytesOf s).drop (a + (2 + (numS body.size).length + body.size)) = eightS (sumS (231 :: v :: (numS body.size ++ bytesOf body))) ++ r := by
      rw [← List.drop_drop, h]
      unfold frB
      rw [List.append_assoc, List.drop_append_of_le_length (by simp [size_bytesOf]; omega), List.drop_of_length_le (by simp [size_bytesOf]; omega)]
      rfl
    rw [ext_bytes s _ _ 8 _ hd rfl, List.take_append_of_le_length (by omega), List.take_of_length_le (by omega)]
  have x3 : s.extract (a + (2 + (numS body.size).length)) (a + (2 + (numS body.size).length + body.size)) = body := by
    apply bytesOf_inj
    have hd : (bytesOf s).drop (a + (2 + (numS body.size).length)) = bytesOf body ++ (eightS (sumS (231 :: v :: (numS body.size ++ bytesOf body))) ++ r) := by
      rw [← List.drop_drop, h, hL, show 231 :: v :: (numS body.size ++ (bytesOf body ++ (eightS (sumS (231 :: v :: (numS body.size ++ bytesOf body))) ++ r))) = (231 :: v :: numS body.size) ++ (bytesOf body ++ (eightS (sumS (231 :: v :: (numS body.size ++ bytesOf body))) ++ r)) from rfl,
        List.drop_append_of_le_length (by simp; omega), List.drop_of_length_le (by simp; omega)]
      rfl
    rw [ext_bytes s _ _ body.size _ hd (by omega), List.take_append_of_le_length (by rw [size_bytesOf]; omega), List.take_of_length_le (by rw [size_bytesOf]; omega)]
  unfold OP
  rw [if_neg (by omega), if_neg (by omega), h0, if_pos rfl, if_neg (by omega), h1, if_pos rfl, hT]
  simp only
  rw [if_pos trivial, if_neg (by omega), if_neg (by omega)]
  have n1 : ((a : Int) + 2 + ((numS body.size).length : Int) + (body.size : Int)).toNat = a + (2 + (numS body.size).length + body.size) := by omega
  have n2 : ((a : Int) + 2 + ((numS body.size).length : Int) + (body.size : Int) + 8).toNat = a + (2 + (numS body.size).length + body.size) + 8 := by omega
  have n3 : ((a : Int) + 2 + ((numS body.size).length : Int)).toNat = a + (2 + (numS body.size).length) := by omega
  rw [n1, n2, n3, Int.toNat_natCast, x1, x3]
  rw [if_pos (bytesOf_inj (by rw [eightB_bytes, x2]))]
  rw [hfl]
  simp only [Prod.mk.injEq, true_and, and_true]
  omega
/-- A beginning of a frame, but not all of it. -/
theorem op_short (s : ByteArray) (a : Nat) (ha : a ≤ s.size) (v : Int) (hv : VOK v) (body : ByteArray) (hb : body.size ≤ 30000) (q t : List Int) (h : (bytesOf s).drop a = q) (hq : q ++ t = frB v body) (ht : t ≠ []) :
    OP s (a : Int) v = (E0, 0, 10) := by
  have hfl := frB_len v body
  have hs : q.length = s.size - a := by rw [← h, List.length_drop, size_bytesOf]
  have hql : q.length < (frB v body).length := by
    rw [← hq, List.length_append]
    have := List.length_pos_iff.2 ht
    omega
  have hv0 := hv.1
  have hv1 := hv.2
  unfold OP
  rw [if_neg (by omega)]
  rcases q with _ | ⟨q0, q⟩
  · rw [if_pos (by simp at hs; omega)]
  have hF : frB v body = 231 :: v :: (numS body.size ++ (bytesOf body ++ eightS (sumS (231 :: v :: (numS body.size ++ bytesOf body))))) := by
    unfold frB
    simp
  rw [hF] at hq
  have hq0 : q0 = 231 := by
    have := congrArg List.head? hq
    simpa using this
  subst hq0
  have h0 : bt s (a : Int) = 231 := by
    have := bt_drop s a _ h 0 (by simp)
    rw [show ((a : Int) + ((0 : Nat) : Int)) = (a : Int) by omega] at this
    exact this
  simp only [List.length_cons] at hs
  rw [if_neg (by omega), h0, if_pos rfl]
  rcases q with _ | ⟨q1, q⟩
  · simp at hs
    rw [if_pos (by omega)]
  simp only [List.length_cons] at hs
  have hq1 : q1 = v := by
    have := congrArg (fun l : List Int => l[1]?) hq
    simpa using this
  subst hq1
  have h1 : bt s ((a : Int) + 1) = q1 := by
    have := bt_drop s a _ h 1 (by simp)
    rw [show ((a : Int) + ((1 : Nat) : Int)) = (a : Int) + 1 by omega] at this
    exact this
  rw [if_neg (by omega), h1, if_pos rfl]
  have hT := tn_drop s a _ h (by simp)
  have hd2 : (231 :: q1 :: q : List Int).drop 2 = q := rfl
  rw [hd2] at hT
  have hq2 : q ++ t = numS body.size ++ (bytesOf body ++ eightS (sumS (231 :: q1 :: (numS body.size ++ bytesOf body)))) := by simpa using hq
  have h10 := numS_ten body.size (by omega)
  by_cases c : q.length < (numS body.size).length
  · have e : numS body.size = q ++ (numS body.size).drop q.length := by
      have e1 := congrArg (List.take q.length) hq2
      rw [List.take_append_of_le_length (Nat.le_refl _), List.take_length, List.take_append_of_le_length (by omega)] at e1
      conv => lhs; rw [← List.take_append_drop q.length (numS body.size)]
      rw [← e1]
    rw [tnS_short (numS body.size) q (canon_numS _) h10 _ (by
      intro e2
      have := congrArg List.length e2
      simp at this
      omega) e] at hT
    rw [hT]
    simp
  · have e : q = numS body.size ++ q.drop (numS body.size).length := by
      have e1 := congrArg (List.take (numS body.size).length) hq2
      rw [List.take_append_of_le_length (by omega), List.take_append_of_le_length (Nat.le_refl _), List.take_length] at e1
      conv => lhs; rw [← List.take_append_drop (numS body.size).length q]
      rw [e1]
    rw [e, tnS_canon _ _ (canon_numS body.size) (by rw [valS_numS]; omega), valS_numS] at hT
    simp only [if_pos] at hT
    rw [hT]
    simp only
    rw [if_pos trivial, if_neg (by omega), if_pos]
    have hlen := congrArg List.length hq2
    have := List.length_pos_iff.2 ht
    have e8 : (eightS (sumS (231 :: q1 :: (numS body.size ++ bytesOf body)))).length = 8 := rfl
    simp only [List.length_append, size_bytesOf, e8] at hlen
    omega
/-- What Open tells stood there. -/
theorem op_ok (s : ByteArray) (a v : Int) (b : ByteArray) (q : Int) (h : OP s a v = (b, q, 0)) :
    VOK v ∧ 0 ≤ a ∧ b.size ≤ 30000 ∧ (bytesOf s).drop a.toNat = frB v b ++ (bytesOf s).drop q.toNat ∧ q = a + (frB v b).length ∧ q ≤ (s.size : Int) := by
  unfold OP at h
  by_cases c0 : a < 0 ∨ a > (s.size : Int) ∨ v < 0 ∨ v > 255
  · rw [if_pos c0] at h
    simp at h
  rw [if_neg c0] at h
  obtain ⟨a, rfl⟩ : ∃ n : Nat, a = (n : Int) := ⟨a.toNat, by omega⟩
  rw [Int.toNat_natCast] at h ⊢
  by_cases c1 : (a : Int) = (s.size : Int)
  · rw [if_pos c1] at h
    simp at h
  rw [if_neg c1] at h
  by_cases c2 : bt s (a : Int) = 231
  rotate_left
  · rw [if_neg c2] at h
    simp at h
  rw [if_pos c2] at h
  by_cases c3 : (a : Int) + 1 = (s.size : Int)
  · rw [if_pos c3] at h
    simp at h
  rw [if_neg c3] at h
  by_cases c4 : bt s ((a : Int) + 1) = v
  rotate_left
  · rw [if_neg c4] at h
    simp at h
  rw [if_pos c4] at h
  obtain ⟨l, hl⟩ : ∃ l, (bytesOf s).drop a = l := ⟨_, rfl⟩
  have hs : l.length = s.size - a := by rw [← hl, List.length_drop, size_bytesOf]
  have hT := tn_drop s a l hl (by omega)
  rw [hT] at h
  simp only at h
  by_cases c5 : (tnS (l.drop 2) 0 0).2.2 = 0
  rotate_left
  · rw [if_neg c5] at h
    simp only [Prod.mk.injEq] at h
    exact absurd h.2.2 c5
  rw [if_pos c5, if_pos c5] at h
  have hbl : ∀ x ∈ l.drop 2, Byte x := fun x hx => bytesOf_byte s x (List.mem_of_mem_drop (by rw [hl]; exact List.mem_of_mem_drop hx))
  obtain ⟨m, r, em, hm, hm10, et, hval⟩ := tnS_ok (l.drop 2) hbl c5
  rw [et] at h
  simp only at h
  by_cases c6 : valS m > 30000
  · rw [if_pos c6] at h
    simp at h
  rw [if_neg c6] at h
  by_cases c7 : valS m + 8 > (s.size : Int) - ((a : Int) + 2 + (m.length : Int))
  · rw [if_pos c7] at h
    simp at h
  rw [if_neg c7] at h
  obtain ⟨n, hn⟩ : ∃ n : Nat, valS m = (n : Int) := ⟨(valS m).toNat, by have := valS_nonneg m; omega⟩
  have hmn : m = numS n := by rw [← canon_val m hm, hn, Int.toNat_natCast]
  rw [hn] at h c6 c7
  have n1 : ((a : Int) + 2 + (m.length : Int) + (n : Int)).toNat = a + (2 + m.length + n) := by omega
  have n2 : ((a : Int) + 2 + (m.length : Int) + (n : Int) + 8).toNat = a + (2 + m.length + n) + 8 := by omega
  have n3 : ((a : Int) + 2 + (m.length : Int)).toNat = a + (2 + m.length) := by omega
  rw [n1, n2, n3] at h
  -- the bytes
  have l0 : l[0]'(by omega) = 231 := by
    have := bt_drop s a l hl 0 (by omega)
    rw [show ((a : Int) + ((0 : Nat) : Int)) = (a : Int) by omega, c2] at this
    exact this.symm
  have l1 : l[1]'(by omega) = v := by
    have := bt_drop s a l hl 1 (by omega)
    rw [show ((a : Int) + ((1 : Nat) : Int)) = (a : Int) + 1 by omega, c4] at this
    exact this.symm
  have hl2 : l = 231 :: v :: (m ++ r) := by
    rw [← em]
    rcases l with _ | ⟨x, _ | ⟨y, l⟩⟩
    · simp at hs; omega
    · simp at hs; omega
    · simp at l0 l1
      rw [l0, l1]
      rfl
  have hrl : r.length = s.size - a - 2 - m.length := by
    have := congrArg List.length hl2
    simp at this
    omega
  by_cases c8 : eightB (sumS (bytesOf (s.extract a (a + (2 + m.length + n))))) = s.extract (a + (2 + m.length + n)) (a + (2 + m.length + n) + 8)
  rotate_left
  · rw [if_neg c8] at h
    simp at h
  rw [if_pos c8] at h
  simp only [Prod.mk.injEq, and_true] at h
  obtain ⟨hb, hq⟩ := h
  have hbb : bytesOf b = r.take n := by
    rw [← hb]
    have hd : (bytesOf s).drop (a + (2 + m.length)) = r := by
      rw [← List.drop_drop, hl, hl2, show 231 :: v :: (m ++ r) = (231 :: v :: m) ++ r from rfl, List.drop_append_of_le_length (by simp; omega), List.drop_of_length_le (by simp; omega)]
      rfl
    exact ext_bytes s _ _ n _ hd (by omega)
  have hbs : b.size = n := by rw [← size_bytesOf, hbb, List.length_take]; omega
  have x1 : bytesOf (s.extract a (a + (2 + m.length + n))) = 231 :: v :: (m ++ r.take n) := by
    rw [ext_bytes s a _ _ l hl rfl, hl2, show 2 + m.length + n = (m.length + n) + 1 + 1 by omega, List.take_succ_cons, List.take_succ_cons, List.take_append, List.take_of_length_le (by omega), Nat.add_sub_cancel_left]
  have x2 : bytesOf (s.extract (a + (2 + m.length + n)) (a + (2 + m.length + n) + 8)) = (r.drop n).take 8 := by
    have hd : (bytesOf s).drop (a + (2 + m.length + n)) = r.drop n := by
      rw [← List.drop_drop, hl, hl2, show 2 + m.length + n = (m.length + n) + 1 + 1 by omega, List.drop_succ_cons, List.drop_succ_cons, List.drop_append, List.drop_of_length_le (by omega), Nat.add_sub_cancel_left]
      rfl
    exact ext_bytes s _ _ 8 _ hd rfl
  have x3 := congrArg bytesOf c8
  rw [eightB_bytes, x1, x2] at x3
  have hfr : frB v b = 231 :: v :: (m ++ r.take n) ++ (r.drop n).take 8 := by
    unfold frB
    rw [hbs, ← hmn, hbb, x3]
  have hlen := frB_len v b
  rw [hbs, ← hmn] at hlen
  refine ⟨⟨by omega, by omega⟩, by omega, by omega, ?_, ?_, by omega⟩
  · have hqn : q.toNat = a + (2 + m.length + n + 8) := by omega
    rw [hqn, ← List.drop_drop, hl, hfr]
    conv => lhs; rw [hl2]
    rw [hl2, show 2 + m.length + n + 8 = (m.length + (n + 8)) + 1 + 1 by omega, List.drop_succ_cons, List.drop_succ_cons, List.drop_append, List.drop_of_length_le (by omega : m.length ≤ m.length + (n + 8)), Nat.add_sub_cancel_left, List.nil_append]
    have e1 : r = r.take n ++ ((r.drop n).take 8 ++ r.drop (n + 8)) := by
      rw [← List.drop_drop, List.take_append_drop, List.take_append_drop]
    conv => lhs; rw [e1]
    simp
  · rw [hlen, ← hq]
    omega
theorem op_err (s : ByteArray) (a v : Int) (ha : 0 ≤ a ∧ a ≤ (s.size : Int)) (hv : VOK v) : (OP s a v).2.2 ≠ 2 := by
  have hv0 := hv.1
  have hv1 := hv.2
  unfold OP
  rw [if_neg (by omega)]
  split
  · decide
  split
  · split
    · decide
    split
    · split
      · split
        · decide
        split
        · decide
        split
        · show (0 : Int) ≠ 2
          decide
        · decide
      · rename_i c
        have : (TN s (a + 2)).2.2 ≠ 2 := by
          rename_i c3 c4
          unfold TN
          rw [if_neg (by omega)]
          rcases tnS_err ((bytesOf s).drop (a + 2).toNat) 0 0 with h | ⟨_, _, h | h⟩ <;> simp [h]
        exact this
    · decide
  · decide
theorem seal_size (b : ByteArray) (h : (SEAL 3 b).2 = 0) : (SEAL 3 b).1.size ≤ 30020 := by
  by_cases c : VOK 3 ∧ (b.size : Int) ≤ 30000
  · rw [seal_ok 3 c.1 b c.2]
    have h1 : (FR 3 b).size = (frB 3 b).length := by rw [← size_bytesOf, fr_bytes 3 c.1]
    have h2 := frB_len 3 b
    have h3 := nm_ten (b.size : Int) (by omega)
    rw [nm_size] at h3
    rw [Int.toNat_natCast] at h3
    show (FR 3 b).size ≤ 30020
    omega
  · exact absurd h (seal_bad 3 b c)
theorem begin_ev (b : ByteArray) : Ev (fun k => segment_Begin.f k b) (SEAL 3 b) := by
  unfold segment_Begin.f
  exact Ev.bind (seal_ev 3 b) (ev_eq (Ev.now _) rfl)
/-! Frames, one behind the other. -/
def FRL (v : Int) : List ByteArray → List Int
  | [] => []
  | b :: r => frB v b ++ FRL v r
def catF (v : Int) : List ByteArray → ByteArray
  | [] => E0
  | b :: r => FR v b ++ catF v r
theorem catF_bytes (v : Int) (hv : VOK v) (l : List ByteArray) : bytesOf (catF v l) = FRL v l := by
  induction l with
  | nil => rfl
  | cons b l ih =>
    unfold catF FRL
    rw [bytesOf_append, fr_bytes v hv, ih]
theorem FRL_len (v : Int) (l : List ByteArray) : 11 * l.length ≤ (FRL v l).length := by
  induction l with
  | nil => simp [FRL]
  | cons b l ih =>
    unfold FRL
    have := frB_len v b
    have := numS_pos b.size
    rw [List.length_append, List.length_cons]
    omega
theorem app_E0 (s : ByteArray) : s ++ E0 = s := bytesOf_inj (by rw [bytesOf_append]; exact List.append_nil _)
theorem app3 (s t u : ByteArray) : s ++ t ++ u = s ++ (t ++ u) := bytesOf_inj (by simp only [bytesOf_append, List.append_assoc])
theorem fr_size (v : Int) (hv : VOK v) (b : ByteArray) : (FR v b).size = (frB v b).length := by rw [← size_bytesOf, fr_bytes v hv]
theorem cut_any (s : ByteArray) (hs : s.size ≤ 1000000) (v : Int) (hv : VOK v) (d : Nat) : ∀ (p : Nat) (out : List ByteArray), s.size - p ≤ d → p ≤ s.size → out.length + (s.size - p) ≤ 2000000 →
    ∃ (bs : List ByteArray) (q : Nat) (e : Int), Ev (fun k => seal_Cut.l0 k s v (p : Int) out) (out ++ bs, (q : Int), e) ∧ q ≤ s.size ∧ (bytesOf s).drop p = FRL v bs ++ (bytesOf s).drop q ∧ q = p + (FRL v bs).length ∧ (e = 0 ↔ q = s.size) ∧ e ≠ 2 ∧ ∀ b ∈ bs, b.size ≤ 30000 := by
  induction d using Nat.strongRecOn with
  | _ d ih =>
    intro p out hd hp ho
    by_cases c : p = s.size
    · refine ⟨[], p, 0, Ev.step (fun k => by rw [seal_Cut.l0]) (ev_neg (by omega) (ev_eq (Ev.now _) (by rw [List.append_nil]))), hp, rfl, rfl, ⟨fun _ => c, fun _ => rfl⟩, by decide, fun b hb => by cases hb⟩
    · have hO := open_ev s (by omega) (p : Int) v
      obtain ⟨⟨b, q, e⟩, hop⟩ : ∃ t, t = OP s (p : Int) v := ⟨_, rfl⟩
      rw [← hop] at hO
      by_cases c2 : e = 0
      · subst c2
        obtain ⟨_, _, h3, h4, h5, h6⟩ := op_ok s (p : Int) v b q hop.symm
        rw [Int.toNat_natCast] at h4
        obtain ⟨q, rfl⟩ : ∃ n : Nat, q = (n : Int) := ⟨q.toNat, by omega⟩
        rw [Int.toNat_natCast] at h4
        have hfp := frB_len v b
        obtain ⟨bs, q2, e2, i1, i2, i3, i4, i5, i6, i7⟩ := ih (s.size - q) (by omega) q (out ++ [b]) (Nat.le_refl _) (by omega) (by rw [List.length_append, List.length_singleton]; omega)
        rw [List.append_assoc] at i1
        have hstep : Ev (fun k => seal_Cut.l0 k s v (p : Int) out) (out ++ b :: bs, (q2 : Int), e2) := by
          refine Ev.step (fun k => by rw [seal_Cut.l0]) ?_
          refine ev_pos (by omega) (Ev.bind hO ?_)
          exact ev_pos rfl (ev_pos (by omega) i1)
        refine ⟨b :: bs, q2, e2, hstep, i2, ?_, ?_, i5, i6, ?_⟩
        · unfold FRL
          rw [h4, i3, List.append_assoc]
        · unfold FRL
          rw [List.length_append]
          omega
        · intro x hx
          rcases List.mem_cons.1 hx with rfl | hx
          · exact h3
          · exact i7 x hx
      · have he := op_err s (p : Int) v (by omega) hv
        rw [← hop] at he
        have hstep : Ev (fun k => seal_Cut.l0 k s v (p : Int) out) (out ++ [], (p : Int), e) := by
          refine Ev.step (fun k => by rw [seal_Cut.l0]) ?_
          refine ev_pos (by omega) (Ev.bind hO ?_)
          rw [List.append_nil]
          exact ev_neg c2 (Ev.now _)
        refine ⟨[], p, e, hstep, hp, rfl, rfl, ⟨fun h => absurd h c2, fun h => absurd h c⟩, he, fun b hb => by cases hb⟩
theorem cut_start (s : ByteArray) (v : Int) (hv : VOK v) {r : List ByteArray × Int × Int} (h : Ev (fun k => seal_Cut.l0 k s v 0 []) r) : Ev (fun k => seal_Cut.f k s v) r := by
  have := hv.1
  have := hv.2
  unfold seal_Cut.f
  exact ev_neg (by omega) (ev_neg (by omega) h)
theorem FRL_append (v : Int) (l m : List ByteArray) : FRL v (l ++ m) = FRL v l ++ FRL v m := by
  induction l with
  | nil => rfl
  | cons b l ih => rw [List.cons_append, FRL, FRL, ih, List.append_assoc]
theorem cut_frames (s : ByteArray) (hs : s.size ≤ 1000000) (v : Int) (hv : VOK v) (tail : List Int) (ht : tail = [] ∨ ∃ b t, b.size ≤ 30000 ∧ tail ++ t = frB v b ∧ t ≠ []) (bs : List ByteArray) : (∀ b ∈ bs, b.size ≤ 30000) → ∀ (p : Nat) (out : List ByteArray), (bytesOf s).drop p = FRL v bs ++ tail → p ≤ s.size → out.length + bs.length ≤ 2000000 →
    Ev (fun k => seal_Cut.l0 k s v (p : Int) out) (out ++ bs, ((p + (FRL v bs).length : Nat) : Int), if tail = [] then 0 else 10) := by
  induction bs with
  | nil =>
    intro _ p out h hp ho
    have hl : s.size - p = tail.length := by
      have := congrArg List.length h
      rw [List.length_drop, size_bytesOf] at this
      simpa [FRL] using this
    rw [List.append_nil, show (FRL v []).length = 0 from rfl, Nat.add_zero]
    refine Ev.step (fun k => by rw [seal_Cut.l0]) ?_
    rcases ht with rfl | ⟨b, t, hb, e, hne⟩
    · rw [if_pos rfl]
      refine ev_neg ?_ (Ev.now _)
      simp at hl
      omega
    · by_cases c : tail = []
      · subst c
        rw [if_pos rfl]
        refine ev_neg ?_ (Ev.now _)
        simp at hl
        omega
      · rw [if_neg c]
        have := List.length_pos_iff.2 c
        have hO := open_ev s (by omega) (p : Int) v
        rw [op_short s p hp v hv b hb tail t (by simpa [FRL] using h) e hne] at hO
        refine ev_pos (by omega) (Ev.bind hO ?_)
        exact ev_neg (by decide) (Ev.now _)
  | cons b bs ih =>
    intro hb p out h hp ho
    have hbb := hb b List.mem_cons_self
    unfold FRL at h
    rw [List.append_assoc] at h
    have hO := open_ev s (by omega) (p : Int) v
    rw [op_frame s p v hv b hbb _ h] at hO
    have hl : s.size - p = (frB v b).length + (FRL v bs ++ tail).length := by
      have := congrArg List.length h
      rw [List.length_drop, size_bytesOf, List.length_append] at this
      exact this
    have hfp := frB_len v b
    rw [List.length_cons] at ho
    have := ih (fun x hx => hb x (List.mem_cons_of_mem _ hx)) (p + (frB v b).length) (out ++ [b]) (by rw [← List.drop_drop, h, List.drop_append_of_le_length (Nat.le_refl _), List.drop_length, List.nil_append]) (by omega) (by rw [List.length_append, List.length_singleton]; omega)
    rw [List.append_assoc] at this
    unfold FRL
    rw [List.length_append]
    have e : p + ((frB v b).length + (FRL v bs).length) = p + (frB v b).length + (FRL v bs).length := by omega
    rw [e]
    have e2 : ((p + (frB v b).length : Nat) : Int) = (p : Int) + (frB v b).length := by omega
    rw [e2] at this
    refine Ev.step (fun k => by rw [seal_Cut.l0]) ?_
    refine ev_pos (by omega) (Ev.bind hO ?_)
    exact ev_pos rfl (ev_pos (by omega) this)
theorem rd_get (l : List Int) (i : Nat) (h : i < l.length) : rd l (i : Int) = l[i] := by
  unfold rd
  rw [Int.toNat_natCast, List.getD_eq_getElem?_getD, List.getElem?_eq_getElem h]
  rfl
theorem rev_loop (l : List Int) (hl : l.length ≤ 1000000000) (d : Nat) : ∀ (i : Nat) (x : List Int), l.length - 2 * i ≤ d → 2 * i ≤ l.length → x.length = l.length →
    (∀ j, j < l.length → x[j]? = if j < i ∨ l.length - i ≤ j then l[l.length - 1 - j]? else l[j]?) → Ev (fun k => slices_Reverse_int_int.l0 k x (i : Int) ((l.length : Int) - 1 - (i : Int))) l.reverse := by
  induction d using Nat.strongRecOn with
  | _ d ih =>
    intro i x hd h2 hx hc
    by_cases c : i < l.length - 1 - i
    · have e1 : wrap64 ((i : Int) + 1) = ((i + 1 : Nat) : Int) := by unfold wrap64; omega
      have e2 : wrap64 ((l.length : Int) - 1 - (i : Int) - 1) = (l.length : Int) - 1 - ((i + 1 : Nat) : Int) := by rw [wr _ (by omega)]; omega
      have e3 : (l.length : Int) - 1 - (i : Int) = ((l.length - 1 - i : Nat) : Int) := by omega
      have g1 := hc i (by omega)
      have g2 := hc (l.length - 1 - i) (by omega)
      rw [if_neg (by omega)] at g1 g2
      have r1 : rd x (i : Int) = l[i] := by
        rw [rd_get x i (by omega)]
        rw [List.getElem?_eq_getElem (by omega), List.getElem?_eq_getElem (by omega)] at g1
        exact Option.some.inj g1
      have r2 : rd x ((l.length : Int) - 1 - (i : Int)) = l[l.length - 1 - i] := by
        rw [e3, rd_get x _ (by omega)]
        rw [List.getElem?_eq_getElem (by omega), List.getElem?_eq_getElem (by omega)] at g2
        exact Option.some.inj g2
      refine Ev.step (fun k => by rw [slices_Reverse_int_int.l0]) ?_
      refine ev_pos (by omega) (ev_pos (by omega) (ev_pos (by omega) (ev_pos (by omega) (ev_pos (by omega) ?_))))
      rw [e1, e2, r1, r2]
      rw [e3, Int.toNat_natCast, Int.toNat_natCast]
      refine ih (l.length - 2 * (i + 1)) (by omega) (i + 1) _ (Nat.le_refl _) (by omega) (by simpa using hx) (fun j hj => ?_)
      rw [List.getElem?_set, List.getElem?_set]
      by_cases k1 : l.length - 1 - i = j
      · rw [if_pos k1, if_pos (by simp; omega), if_pos (by omega), List.getElem?_eq_getElem (by omega)]
        congr 2
        omega
      · rw [if_neg k1]
        by_cases k2 : i = j
        · rw [if_pos k2, if_pos (by omega), if_pos (by omega), List.getElem?_eq_getElem (by omega)]
          congr 2
          omega
        · rw [if_neg k2, hc j hj]
          by_cases k3 : j < i ∨ l.length - i ≤ j
          · rw [if_pos k3, if_pos (by omega)]
          · rw [if_neg k3, if_neg (by omega)]
    · refine Ev.step (fun k => by rw [slices_Reverse_int_int.l0]) ?_
      refine ev_neg (by omega) (ev_eq (Ev.now _) ?_)
      apply List.ext_getElem?
      intro j
      by_cases hj : j < l.length
      · rw [hc j hj, List.getElem?_reverse hj]
        by_cases k3 : j < i ∨ l.length - i ≤ j
        · rw [if_pos k3]
        · rw [if_neg k3]
          congr 1
          omega
      · rw [List.getElem?_eq_none (by omega), List.getElem?_eq_none (by rw [List.length_reverse]; omega)]
theorem rev_ev (l : List Int) (hl : l.length ≤ 1000000000) : Ev (fun k => slices_Reverse_int_int.f k l) l.reverse := by
  have := rev_loop l hl l.length 0 l (by omega) (by omega) rfl (fun j hj => by rw [if_neg (by omega)])
  unfold slices_Reverse_int_int.f
  rw [show wrap64 ((l.length : Int) - 1) = (l.length : Int) - 1 - ((0 : Nat) : Int) by rw [wr _ (by omega)]; omega]
  exact this
theorem rd46 (l : List S75) (i : Nat) (h : i < l.length) : rd_T75 l (i : Int) = l[i] := by
  unfold rd_T75
  rw [Int.toNat_natCast, List.getD_eq_getElem?_getD, List.getElem?_eq_getElem h]
  rfl
theorem drop46 (l : List S75) (i : Nat) (h : i < l.length) : l.drop i = rd_T75 l (i : Int) :: l.drop (i + 1) := by
  rw [List.drop_eq_getElem_cons h, rd46 l i h]
/-! the files -/
def OE (f : S75) : Int := (OP f.f1 0 3).2.2
/-- What the newest whole file answers; C: what Cut says of a file. -/
def LS (C : S75 → List ByteArray × Int × Int) (l : List S75) : Nat → Int × Int × List ByteArray × List Int × Int
  | 0 => (-1, 0, [], l.map S75.f0, 0)
  | n + 1 => if OE (rd_T75 l (n : Int)) = 10 then LS C l n
    else if OE (rd_T75 l (n : Int)) ≠ 0 ∨ (C (rd_T75 l (n : Int))).2.2 ≠ 0 ∧ (C (rd_T75 l (n : Int))).2.2 ≠ 10 then (0, 0, [], [], 170)
    else ((rd_T75 l (n : Int)).f0, (C (rd_T75 l (n : Int))).2.1, (C (rd_T75 l (n : Int))).1, (l.take n ++ l.drop (n + 1)).map S75.f0, 0)
theorem go_met (k0 : List S75) (hz : ∀ f ∈ k0, f.f1.size ≤ 1000000) : ∀ (num good : Int) (bodies : List ByteArray) (drop : List Int), drop.length + k0.length ≤ 1000000 →
    Ev (fun k => segment_Look.go k k0 num good bodies drop true) (num, good, bodies, drop ++ k0.map S75.f0, 0) := by
  induction k0 with
  | nil =>
    intro num good bodies drop hd
    simp only [segment_Look.go, List.map_nil, List.append_nil]
    exact Ev.now _
  | cons f r ih =>
    intro num good bodies drop hd
    rw [List.length_cons] at hd
    have := ih (fun x hx => hz x (List.mem_cons_of_mem _ hx)) num good bodies (drop ++ [f.f0]) (by rw [List.length_append, List.length_singleton]; omega)
    rw [List.append_assoc, List.singleton_append] at this
    simp only [segment_Look.go]
    refine Ev.bind (a := (num, good, bodies, drop ++ [f.f0], true, 0)) ?_ ?_
    · unfold segment_Look.step
      refine Ev.bind (open_ev f.f1 (by have := hz f List.mem_cons_self; omega) 0 3) ?_
      exact ev_pos (.inr rfl) (ev_pos (by omega) (Ev.now _))
    · exact ev_pos rfl this
theorem go_ev (C : S75 → List ByteArray × Int × Int) (l : List S75) (hl : l.length ≤ 1000000) (hz : ∀ f ∈ l, f.f1.size ≤ 1000000) (hC : ∀ f ∈ l, Ev (fun k => seal_Cut.f k f.f1 3) (C f)) (n : Nat) : n ≤ l.length → ∀ drop : List Int, drop = ((l.drop n).reverse.map S75.f0) →
    ∃ t : Int × Int × List ByteArray × List Int × Int, Ev (fun k => segment_Look.go k ((l.take n).reverse) (-1) 0 [] drop false) t ∧ t.2.2.2.1.length ≤ l.length ∧ (if t.2.2.2.2 = 0 then (t.1, t.2.1, t.2.2.1, t.2.2.2.1.reverse, 0) else (0, 0, [], [], t.2.2.2.2)) = LS C l n := by
  induction n with
  | zero =>
    intro hn drop hd
    refine ⟨(-1, 0, [], drop, 0), ?_, ?_, ?_⟩
    · simp only [List.take_zero, List.reverse_nil, segment_Look.go]
      exact Ev.now _
    · rw [hd]; simp
    · rw [if_pos rfl, hd]
      simp only [LS, List.drop_zero]
      rw [← List.map_reverse, List.reverse_reverse]
  | succ n ih =>
    intro hn drop hd
    have hm : rd_T75 l (n : Int) ∈ l := by rw [rd46 l n (by omega)]; exact List.getElem_mem _
    have hs := hz _ hm
    have hcf := hC _ hm
    have e0 : (l.take (n + 1)).reverse = rd_T75 l (n : Int) :: (l.take n).reverse := by
      rw [List.take_add_one, List.getElem?_eq_getElem (by omega), Option.toList_some, List.reverse_append, List.reverse_singleton, List.singleton_append, rd46 l n (by omega)]
    have e1 : drop ++ [(rd_T75 l (n : Int)).f0] = (l.drop n).reverse.map S75.f0 := by
      rw [hd, drop46 l n (by omega), List.reverse_cons, List.map_append, List.map_singleton]
    have hdl : drop.length ≤ l.length := by rw [hd]; simp
    rw [e0]
    simp only [segment_Look.go]
    by_cases c1 : OE (rd_T75 l (n : Int)) = 10
    · obtain ⟨t, h1, h2, h3⟩ := ih (by omega) _ e1
      refine ⟨t, ?_, h2, ?_⟩
      · refine Ev.bind (a := (-1, 0, [], drop ++ [(rd_T75 l (n : Int)).f0], false, 0)) ?_ (ev_pos rfl h1)
        unfold segment_Look.step
        refine Ev.bind (open_ev _ (by omega) 0 3) ?_
        exact ev_pos (.inl c1) (ev_pos (by omega) (Ev.now _))
      · rw [h3]
        simp only [LS]
        rw [if_pos c1]
    · by_cases c2 : OE (rd_T75 l (n : Int)) ≠ 0 ∨ (C (rd_T75 l (n : Int))).2.2 ≠ 0 ∧ (C (rd_T75 l (n : Int))).2.2 ≠ 10
      · refine ⟨(-1, 0, [], drop, 170), ?_, hdl, ?_⟩
        · refine Ev.bind (a := (-1, 0, [], drop, false, 170)) ?_ (ev_neg (by dsimp only; omega) (Ev.now _))
          unfold segment_Look.step
          refine Ev.bind (open_ev _ (by omega) 0 3) ?_
          refine ev_neg (by intro h; rcases h with h | h; exact c1 h; cases h) (Ev.bind hcf ?_)
          exact ev_pos c2 (Ev.now _)
        · rw [if_neg (by dsimp only; omega)]
          simp only [LS]
          rw [if_neg c1, if_pos c2]
      · have hr := go_met ((l.take n).reverse) (fun x hx => hz x (List.mem_of_mem_take (List.mem_reverse.1 hx))) (rd_T75 l (n : Int)).f0 (C (rd_T75 l (n : Int))).2.1 (C (rd_T75 l (n : Int))).1 drop (by rw [hd]; simp; omega)
        refine ⟨_, Ev.bind (a := ((rd_T75 l (n : Int)).f0, (C (rd_T75 l (n : Int))).2.1, (C (rd_T75 l (n : Int))).1, drop, true, 0)) ?_ (ev_pos rfl hr), ?_, ?_⟩
        · unfold segment_Look.step
          refine Ev.bind (open_ev _ (by omega) 0 3) ?_
          refine ev_neg (by intro h; rcases h with h | h; exact c1 h; cases h) (Ev.bind hcf ?_)
          exact ev_neg c2 (Ev.now _)
        · rw [hd]; simp; omega
        · rw [if_pos rfl]
          simp only [LS]
          rw [if_neg c1, if_neg c2, hd, ← List.map_append, ← List.map_reverse, List.reverse_append, List.reverse_reverse, List.reverse_reverse]
theorem look_ev (C : S75 → List ByteArray × Int × Int) (l : List S75) (hl : l.length ≤ 1000000) (hz : ∀ f ∈ l, f.f1.size ≤ 1000000) (hC : ∀ f ∈ l, Ev (fun k => seal_Cut.f k f.f1 3) (C f)) :
    Ev (fun k => segment_Look.f k l) (if segment_Look.sorted l = true then LS C l l.length else (0, 0, [], [], 2)) := by
  unfold segment_Look.f
  by_cases c : segment_Look.sorted l = true
  · rw [if_pos c]
    refine ev_pos c ?_
    obtain ⟨t, h1, h2, h3⟩ := go_ev C l hl hz hC l.length (Nat.le_refl _) [] (by simp)
    rw [List.take_length] at h1
    refine Ev.bind h1 ?_
    by_cases c2 : t.2.2.2.2 = 0
    · rw [if_pos c2] at h3
      refine ev_pos c2 (Ev.bind (rev_ev _ (by omega)) ?_)
      exact ev_eq (Ev.now _) h3
    · rw [if_neg c2] at h3
      exact ev_neg c2 (ev_eq (Ev.now _) h3)
  · rw [if_neg c]
    exact ev_neg c (Ev.now _)
theorem v3 : VOK 3 := ⟨by omega, by omega⟩
theorem next_ev (l : List ByteArray) (hl : l.length ≤ 1000000) (d : Nat) : ∀ (i : Nat) (acc : ByteArray), i + d = l.length → acc.size + 40000 * d ≤ 1000000000000 →
    ∃ r, Ev (fun k => segment_Next.l0 k acc l (l.length : Int) (i : Int)) r ∧ (r.2 = 0 → r.1 = acc ++ catF 3 (l.drop i) ∧ ∀ b ∈ l.drop i, b.size ≤ 30000) := by
  induction d with
  | zero =>
    intro i acc hi ha
    refine ⟨(acc, 0), ?_, fun _ => ?_⟩
    · refine Ev.step (fun k => by rw [segment_Next.l0]) ?_
      exact ev_neg (by omega) (Ev.now _)
    · rw [List.drop_eq_nil_of_le (by omega)]
      exact ⟨(app_E0 acc).symm, fun b hb => by cases hb⟩
  | succ d ih =>
    intro i acc hi ha
    by_cases c : (SEAL 3 (rdOf ByteArray.empty l (i : Int))).2 = 0
    · have hz := seal_size _ c
      have cc : VOK 3 ∧ ((rdOf ByteArray.empty l (i : Int)).size : Int) ≤ 30000 := Classical.byContradiction fun h => seal_bad 3 _ h c
      obtain ⟨r, h1, h2⟩ := ih (i + 1) (acc ++ (SEAL 3 (rdOf ByteArray.empty l (i : Int))).1) (by omega) (by rw [size_app]; omega)
      have e1 : wrap64 ((i : Int) + 1) = ((i + 1 : Nat) : Int) := by unfold wrap64; omega
      refine ⟨r, ?_, fun h => ?_⟩
      · refine Ev.step (fun k => by rw [segment_Next.l0]) ?_
        refine ev_pos (by omega) (ev_pos (by omega) (ev_pos (by omega) (Ev.bind (seal_ev 3 _) ?_)))
        refine ev_pos c (ev_pos (by omega) ?_)
        rw [e1]
        exact h1
      · obtain ⟨g1, g2⟩ := h2 h
        rw [drop_rdOf l i (by omega)]
        refine ⟨?_, fun b hb => ?_⟩
        · rw [g1, seal_ok 3 v3 _ cc.2, catF, app3]
        · rcases List.mem_cons.1 hb with rfl | hb
          · omega
          · exact g2 b hb
    · refine ⟨(⟨#[]⟩, (SEAL 3 (rdOf ByteArray.empty l (i : Int))).2), ?_, fun h => absurd h c⟩
      refine Ev.step (fun k => by rw [segment_Next.l0]) ?_
      refine ev_pos (by omega) (ev_pos (by omega) (ev_pos (by omega) (Ev.bind (seal_ev 3 _) ?_)))
      exact ev_neg c (Ev.now _)
theorem begin_ok (b : ByteArray) (h : (b.size : Int) ≤ 30000) : Ev (fun k => segment_Begin.f k b) (FR 3 b, 0) := ev_eq (begin_ev b) (seal_ok 3 v3 b h)
theorem op_first (s b : ByteArray) (hb : b.size ≤ 30000) (r : List Int) (h : bytesOf s = frB 3 b ++ r) : (OP s 0 3).2.2 = 0 := by
  have := op_frame s 0 3 v3 b hb r (by rw [List.drop_zero]; exact h)
  rw [show ((0 : Nat) : Int) = 0 from rfl] at this
  rw [this]
theorem op_cut (b : ByteArray) (hb : b.size ≤ 30000) (n : Nat) (hn : n < (frB 3 b).length) : (OP ((FR 3 b).extract 0 n) 0 3).2.2 = 10 := by
  have hx : bytesOf ((FR 3 b).extract 0 n) = (frB 3 b).take n := ext_bytes (FR 3 b) 0 n n (frB 3 b) (by rw [List.drop_zero, fr_bytes 3 v3]) (by omega)
  have := op_short ((FR 3 b).extract 0 n) 0 (by omega) 3 v3 b hb ((frB 3 b).take n) ((frB 3 b).drop n) (by rw [List.drop_zero, hx]) (List.take_append_drop _ _) (by intro h; have := congrArg List.length h; rw [List.length_drop, List.length_nil] at this; omega)
  rw [show ((0 : Nat) : Int) = 0 from rfl] at this
  rw [this]
theorem cut_some (s : ByteArray) (hs : s.size ≤ 1000000) : ∃ r : List ByteArray × Int × Int, Ev (fun k => seal_Cut.f k s 3) r := by
  obtain ⟨bs, q, e, h, _⟩ := cut_any s hs 3 v3 s.size 0 [] (by omega) (by omega) (by simp; omega)
  exact ⟨_, cut_start s 3 v3 h⟩
theorem cut_cat (l : List ByteArray) (hb : ∀ b ∈ l, b.size ≤ 30000) (hl : l.length ≤ 1000000) (hs : (catF 3 l).size ≤ 1000000) : Ev (fun k => seal_Cut.f k (catF 3 l) 3) (l, ((FRL 3 l).length : Int), 0) := by
  have hcs : (catF 3 l).size = (FRL 3 l).length := by rw [← size_bytesOf, catF_bytes 3 v3]
  have hall := cut_frames (catF 3 l) hs 3 v3 [] (.inl rfl) l hb 0 [] (by rw [List.drop_zero, catF_bytes 3 v3, List.append_nil]) (by omega) (by simp; omega)
  rw [List.nil_append, if_pos rfl, Nat.zero_add] at hall
  exact cut_start _ 3 v3 hall
/-! #### a log's file, in plain words -/
theorem one_file' (C : S75 → List ByteArray × Int × Int) (n z : Int) (t : ByteArray) (h : (OP t 0 3).2.2 = 0) (hc : (C ⟨n, t, z⟩).2.2 = 0 ∨ (C ⟨n, t, z⟩).2.2 = 10) : LS C [⟨n, t, z⟩] 1 = (n, (C ⟨n, t, z⟩).2.1, (C ⟨n, t, z⟩).1, [], 0) := by
  simp only [LS]
  rw [show rd_T75 [(⟨n, t, z⟩ : S75)] ((0 : Nat) : Int) = ⟨n, t, z⟩ from rfl]
  rw [if_neg (show ¬ OE ⟨n, t, z⟩ = 10 by unfold OE; rw [h]; omega), if_neg (by unfold OE; rw [h]; omega)]
  rfl
theorem two_torn' (C : S75 → List ByteArray × Int × Int) (n m z y : Int) (s t : ByteArray) (h1 : (OP s 0 3).2.2 = 0) (h2 : (OP t 0 3).2.2 = 10) (hc : (C ⟨n, s, z⟩).2.2 = 0 ∨ (C ⟨n, s, z⟩).2.2 = 10) : LS C [⟨n, s, z⟩, ⟨m, t, y⟩] 2 = (n, (C ⟨n, s, z⟩).2.1, (C ⟨n, s, z⟩).1, [m], 0) := by
  simp only [LS]
  rw [show rd_T75 [(⟨n, s, z⟩ : S75), ⟨m, t, y⟩] ((1 : Nat) : Int) = ⟨m, t, y⟩ from rfl, show rd_T75 [(⟨n, s, z⟩ : S75), ⟨m, t, y⟩] ((0 : Nat) : Int) = ⟨n, s, z⟩ from rfl]
  rw [if_pos (show OE ⟨m, t, y⟩ = 10 from h2), if_neg (show ¬ OE ⟨n, s, z⟩ = 10 by unfold OE; rw [h1]; omega), if_neg (by unfold OE; rw [h1]; omega)]
  rfl
theorem two_whole' (C : S75 → List ByteArray × Int × Int) (n m z y : Int) (s t : ByteArray) (h2 : (OP t 0 3).2.2 = 0) (hc : (C ⟨m, t, y⟩).2.2 = 0 ∨ (C ⟨m, t, y⟩).2.2 = 10) : LS C [⟨n, s, z⟩, ⟨m, t, y⟩] 2 = (m, (C ⟨m, t, y⟩).2.1, (C ⟨m, t, y⟩).1, [n], 0) := by
  simp only [LS]
  rw [show rd_T75 [(⟨n, s, z⟩ : S75), ⟨m, t, y⟩] ((1 : Nat) : Int) = ⟨m, t, y⟩ from rfl]
  rw [if_neg (show ¬ OE ⟨m, t, y⟩ = 10 by unfold OE; rw [h2]; omega), if_neg (by unfold OE; rw [h2]; omega)]
  rfl
/-- Frames, and perhaps a beginning of one more. -/
def Ends (x : ByteArray) (l : List ByteArray) : Prop := ∃ tail, bytesOf x = FRL 3 l ++ tail ∧ (tail = [] ∨ ∃ b t, b.size ≤ 30000 ∧ tail ++ t = frB 3 b ∧ t ≠ [])
theorem Ends.cut {x : ByteArray} {l : List ByteArray} (hb : ∀ b ∈ l, b.size ≤ 30000) (hx : x.size ≤ 1000000) (h : Ends x l) : ∃ e : Int, (e = 0 ∨ e = 10) ∧ Ev (fun k => seal_Cut.f k x 3) (l, ((FRL 3 l).length : Int), e) := by
  obtain ⟨tail, h1, h2⟩ := h
  have hl := FRL_len 3 l
  have hsz : x.size = (FRL 3 l).length + tail.length := by rw [← size_bytesOf, h1, List.length_append]
  have := cut_frames x hx 3 v3 tail h2 l hb 0 [] (by rw [List.drop_zero, h1]) (by omega) (by simp; omega)
  rw [List.nil_append, Nat.zero_add] at this
  exact ⟨_, by split <;> simp, cut_start _ 3 v3 this⟩
theorem Ends.op {x : ByteArray} {l : List ByteArray} (hne : l ≠ []) (hb : ∀ b ∈ l, b.size ≤ 30000) (h : Ends x l) : (OP x 0 3).2.2 = 0 := by
  obtain ⟨b, r, rfl⟩ := List.exists_cons_of_ne_nil hne
  obtain ⟨tail, h1, _⟩ := h
  exact op_first x b (hb b List.mem_cons_self) (FRL 3 r ++ tail) (by rw [h1, FRL, List.append_assoc])
theorem Ends.len {x : ByteArray} {l : List ByteArray} (h : Ends x l) : (FRL 3 l).length ≤ x.size := by
  obtain ⟨tail, h1, _⟩ := h
  rw [← size_bytesOf, h1, List.length_append]
  omega
theorem ends_cat (l : List ByteArray) : Ends (catF 3 l) l := ⟨[], by rw [catF_bytes 3 v3, List.append_nil], .inl rfl⟩
theorem catF_size (l : List ByteArray) : (catF 3 l).size = (FRL 3 l).length := by rw [← size_bytesOf, catF_bytes 3 v3]
theorem look_none : Ev (fun k => segment_Look.f k []) (-1, 0, [], [], 0) := by
  have HL := look_ev (fun _ => ([], 0, 0)) [] (by simp) (by intro f hf; cases hf) (by intro f hf; cases hf)
  rw [if_pos (by rfl)] at HL
  exact HL
theorem look_one (n z : Int) {x : ByteArray} {l : List ByteArray} (hne : l ≠ []) (hb : ∀ b ∈ l, b.size ≤ 30000) (hx : x.size ≤ 1000000) (h : Ends x l) : Ev (fun k => segment_Look.f k [⟨n, x, z⟩]) (n, ((FRL 3 l).length : Int), l, [], 0) := by
  obtain ⟨e, he, hC⟩ := h.cut hb hx
  have HL := look_ev (fun _ => (l, ((FRL 3 l).length : Int), e)) [⟨n, x, z⟩] (by simp) (by intro f hf; rw [List.mem_singleton.1 hf]; exact hx) (by intro f hf; rw [List.mem_singleton.1 hf]; exact hC)
  rw [if_pos (by rfl)] at HL
  rw [show [(⟨n, x, z⟩ : S75)].length = 1 from rfl, one_file' _ n z x (h.op hne hb) he] at HL
  exact HL
theorem sorted_pair (n m z y : Int) (s t : ByteArray) (h : n < m) : segment_Look.sorted [⟨n, s, z⟩, ⟨m, t, y⟩] = true := by
  simp [segment_Look.sorted, h]
theorem look_torn (n m z y : Int) (hnm : n < m) {x : ByteArray} {l : List ByteArray} (hne : l ≠ []) (hb : ∀ b ∈ l, b.size ≤ 30000) (hx : x.size ≤ 1000000) (h : Ends x l) (b : ByteArray) (hbb : b.size ≤ 30000) (j : Nat) (hj : j < (frB 3 b).length) (hbl : (FR 3 b).size ≤ 1000000) :
    Ev (fun k => segment_Look.f k [⟨n, x, z⟩, ⟨m, (FR 3 b).extract 0 j, y⟩]) (n, ((FRL 3 l).length : Int), l, [m], 0) := by
  obtain ⟨e, he, hC⟩ := h.cut hb hx
  have hxs := extract_size (FR 3 b) 0 j
  obtain ⟨c2r, hc2⟩ := cut_some ((FR 3 b).extract 0 j) (by omega)
  have HL := look_ev (fun f => if f.f0 = n then (l, ((FRL 3 l).length : Int), e) else c2r) [⟨n, x, z⟩, ⟨m, (FR 3 b).extract 0 j, y⟩] (by simp)
    (by intro f hf; rcases List.mem_cons.1 hf with rfl | hf; (show x.size ≤ _; omega); (rw [List.mem_singleton.1 hf]; show ((FR 3 b).extract 0 j).size ≤ _; omega))
    (by
      intro f hf
      rcases List.mem_cons.1 hf with rfl | hf
      · rw [if_pos rfl]; exact hC
      · rw [List.mem_singleton.1 hf, if_neg (show ¬ m = n by omega)]; exact hc2)
  rw [if_pos (sorted_pair n m z y _ _ hnm)] at HL
  rw [show [(⟨n, x, z⟩ : S75), ⟨m, (FR 3 b).extract 0 j, y⟩].length = 2 from rfl, two_torn' _ n m z y _ _ (h.op hne hb) (op_cut b hbb j hj) (by rw [if_pos rfl]; exact he), if_pos rfl] at HL
  exact HL
theorem look_new (n m z y : Int) (hnm : n < m) (x : ByteArray) (hx : x.size ≤ 1000000) {t : ByteArray} {l : List ByteArray} (hne : l ≠ []) (hb : ∀ b ∈ l, b.size ≤ 30000) (ht : t.size ≤ 1000000) (h : Ends t l) :
    Ev (fun k => segment_Look.f k [⟨n, x, z⟩, ⟨m, t, y⟩]) (m, ((FRL 3 l).length : Int), l, [n], 0) := by
  obtain ⟨e, he, hC⟩ := h.cut hb ht
  obtain ⟨c2r, hc2⟩ := cut_some x hx
  have HL := look_ev (fun f => if f.f0 = n then c2r else (l, ((FRL 3 l).length : Int), e)) [⟨n, x, z⟩, ⟨m, t, y⟩] (by simp)
    (by intro f hf; rcases List.mem_cons.1 hf with rfl | hf; (show x.size ≤ _; omega); (rw [List.mem_singleton.1 hf]; show t.size ≤ _; omega))
    (by
      intro f hf
      rcases List.mem_cons.1 hf with rfl | hf
      · rw [if_pos rfl]; exact hc2
      · rw [List.mem_singleton.1 hf, if_neg (show ¬ m = n by omega)]; exact hC)
  rw [if_pos (sorted_pair n m z y _ _ hnm)] at HL
  rw [show [(⟨n, x, z⟩ : S75), ⟨m, t, y⟩].length = 2 from rfl, two_whole' _ n m z y _ _ (h.op hne hb) (by rw [if_neg (show ¬ m = n by omega)]; exact he), if_neg (show ¬ m = n by omega)] at HL
  exact HL
theorem next_any (b : ByteArray) (h : b.size ≤ 140737488351232) : Ev (fun k => segment_Next.f k [b]) (if b.size ≤ 30000 then (FR 3 b, 0) else (⟨#[]⟩, 3)) := by
  have e : rdOf ByteArray.empty [b] 0 = b := rfl
  have e1 : (([b] : List ByteArray).length : Int) = 1 := rfl
  refine Ev.step (g := fun k => segment_Next.l0 k ⟨#[]⟩ [b] (([b] : List ByteArray).length : Int) 0) (fun k => by rw [segment_Next.l0]) ?_
  refine ev_pos (by omega) (ev_pos (by omega) (ev_pos (by omega) (Ev.bind (seal_ev 3 _) ?_)))
  rw [e]
  by_cases c : b.size ≤ 30000
  · have h0 := seal_ok 3 v3 b (by omega)
    have hz : (FR 3 b).size ≤ 30020 := by
      have := seal_size b (by rw [h0])
      rw [h0] at this
      exact this
    rw [if_pos c]
    rw [h0]
    refine ev_pos rfl (ev_pos (by show 0 + (FR 3 b).size ≤ _; omega) ?_)
    refine Ev.step (fun k => by rw [segment_Next.l0]) ?_
    refine ev_neg (by rw [e1]; unfold wrap64; omega) (ev_eq (Ev.now _) ?_)
    rw [show (⟨#[]⟩ : ByteArray) ++ FR 3 b = FR 3 b from bytesOf_inj (by rw [bytesOf_append]; rfl)]
  · rw [if_neg c, show SEAL 3 b = (E0, 3) by unfold SEAL; rw [if_neg (by omega), if_pos (by omega)]]
    exact ev_neg (by decide) (Ev.now _)
theorem begin_any (b : ByteArray) (h : b.size ≤ 140737488351232) : Ev (fun k => segment_Begin.f k b) (if b.size ≤ 30000 then (FR 3 b, 0) else (E0, 3)) := by
  refine ev_eq (begin_ev b) ?_
  by_cases c : b.size ≤ 30000
  · rw [if_pos c, seal_ok 3 v3 b (by omega)]
  · rw [if_neg c]
    unfold SEAL
    rw [if_neg (by omega), if_pos (by omega)]
theorem fr_small (b : ByteArray) (h : b.size ≤ 30000) : 11 ≤ (FR 3 b).size ∧ (FR 3 b).size ≤ b.size + 20 := by
  have h1 := fr_size 3 v3 b
  have h2 := frB_len 3 b
  have h3 := nm_ten (b.size : Int) (by omega)
  have h4 := numS_pos b.size
  rw [nm_size, Int.toNat_natCast] at h3
  omega
/-! #### what a log's calls do to a disk, in plain words -/
theorem write_cases (s : DS) (n : Int) (d : ByteArray) (L1 L2 : List S75) (hd : s.dead = false) (hn : ¬ (n < 0 ∨ n > 1000000)) (hz : d.size ≠ 0) (h1 : putL s.L (appF s n d) = L1) (h2 : hasL L1 n = true) (h3 : putL L1 ⟨n, (getL L1 n).f1, ((getL L1 n).f1.size : Int)⟩ = L2) :
    (fullB s n d = true ∧ writeS s n d = (s, 151)) ∨ (fullB s n d = false ∧ s.armed ≠ 0 ∧ (writeS s n d).2 = 150 ∧ (writeS s n d).1 = ⟨true, s.room, 0, [], fallL s.keep 0 L1⟩) ∨ (fullB s n d = false ∧ (writeS s n d).2 = 0 ∧ ∃ a, (s.armed = 0 → a = 0) ∧ (writeS s n d).1 = ⟨false, s.room, a, s.keep, L2⟩) := by
  obtain ⟨dead, room, armed, keep, L⟩ := s
  simp only at hd
  subst hd
  cases hf : fullB ⟨false, room, armed, keep, L⟩ n d with
  | true =>
    refine .inl ⟨rfl, ?_⟩
    have e : appS ⟨false, room, armed, keep, L⟩ n d = (⟨false, room, armed, keep, L⟩, 151) := by
      unfold appS
      rw [if_neg (by simp), if_neg hn, if_pos hf]
    unfold writeS
    rw [e, if_neg (show ¬ (151 : Int) = 0 by decide)]
  | false =>
    refine .inr ?_
    have e : appS ⟨false, room, armed, keep, L⟩ n d = endS ⟨false, room, armed, keep, L1⟩ := by
      unfold appS
      rw [if_neg (by simp), if_neg hn, if_neg (by rw [hf]; simp), if_neg hz, h1]
    by_cases c1 : armed = 1
    · subst c1
      have e2 : endS ⟨false, room, 1, keep, L1⟩ = (⟨true, room, 0, [], fallL keep 0 L1⟩, 150) := by
        unfold endS
        rw [if_pos (by rfl)]
        rfl
      refine .inl ⟨rfl, by show (1 : Int) ≠ 0; decide, ?_, ?_⟩
      · unfold writeS; rw [e, e2, if_neg (show ¬ (150 : Int) = 0 by decide)]
      · unfold writeS; rw [e, e2, if_neg (show ¬ (150 : Int) = 0 by decide)]
    · have e2 : endS ⟨false, room, armed, keep, L1⟩ = (stepS ⟨false, room, armed, keep, L1⟩, 0) := by
        unfold endS
        rw [if_neg (by simp [lastS, c1])]
      have e3 : stepS ⟨false, room, armed, keep, L1⟩ = ⟨false, room, if armed = 0 then 0 else armed - 1, keep, L1⟩ := by
        unfold stepS
        by_cases c : armed = 0
        · simp [c]
        · simp [c]
      obtain ⟨a1, ha1⟩ : ∃ a1 : Int, (if armed = 0 then 0 else armed - 1) = a1 := ⟨_, rfl⟩
      rw [ha1] at e3
      have e4 : writeS ⟨false, room, armed, keep, L⟩ n d = syncS ⟨false, room, a1, keep, L1⟩ n := by
        unfold writeS; rw [e, e2, if_pos rfl, e3]
      have e5 : syncS ⟨false, room, a1, keep, L1⟩ n = chgS ⟨false, room, a1, keep, L1⟩ L2 := by
        unfold syncS
        rw [if_pos (by simp [findE, h2]), h3]
      by_cases c2 : a1 = 1
      · subst c2
        have e6 : chgS ⟨false, room, 1, keep, L1⟩ L2 = (⟨true, room, 0, [], fallL keep 0 L1⟩, 150) := by
          unfold chgS
          rw [if_pos (by rfl)]
          rfl
        refine .inl ⟨rfl, ?_, ?_, ?_⟩
        · intro h
          have h : armed = 0 := h
          rw [if_pos h] at ha1
          omega
        · rw [e4, e5, e6]
        · rw [e4, e5, e6]
      · have e6 : chgS ⟨false, room, a1, keep, L1⟩ L2 = (⟨false, room, if a1 = 0 then 0 else a1 - 1, keep, L2⟩, 0) := by
          unfold chgS
          rw [if_neg (by simp [lastS, c2])]
          unfold stepS
          by_cases c : a1 = 0
          · simp [c]
          · simp [c]
        refine .inr ⟨rfl, by rw [e4, e5, e6], if a1 = 0 then 0 else a1 - 1, ?_, by rw [e4, e5, e6]⟩
        intro h
        have h : armed = 0 := h
        rw [if_pos h] at ha1
        rw [if_pos ha1.symm]
theorem rem_cases (s : DS) (n : Int) (hd : s.dead = false) (h2 : hasL s.L n = true) :
    (s.armed ≠ 0 ∧ (remS s n).2 = 150 ∧ (remS s n).1 = ⟨true, s.room, 0, [], fallL s.keep 0 s.L⟩) ∨ ((remS s n).2 = 0 ∧ ∃ a, (s.armed = 0 → a = 0) ∧ (remS s n).1 = ⟨false, s.room, a, s.keep, delL s.L n⟩) := by
  obtain ⟨dead, room, armed, keep, L⟩ := s
  simp only at hd h2
  subst hd
  have e : remS ⟨false, room, armed, keep, L⟩ n = chgS ⟨false, room, armed, keep, L⟩ (delL L n) := by
    unfold remS
    rw [if_pos (by simp [findE, h2])]
  by_cases c2 : armed = 1
  · subst c2
    have e6 : chgS ⟨false, room, 1, keep, L⟩ (delL L n) = (⟨true, room, 0, [], fallL keep 0 L⟩, 150) := by
      unfold chgS
      rw [if_pos (by rfl)]
      rfl
    exact .inl ⟨by show (1:Int) ≠ 0; decide, by rw [e, e6], by rw [e, e6]⟩
  · have e6 : chgS ⟨false, room, armed, keep, L⟩ (delL L n) = (⟨false, room, if armed = 0 then 0 else armed - 1, keep, delL L n⟩, 0) := by
      unfold chgS
      rw [if_neg (by simp [lastS, c2])]
      unfold stepS
      by_cases c : armed = 0
      · simp [c]
      · simp [c]
    exact .inr ⟨by rw [e, e6], _, fun h => if_pos h, by rw [e, e6]⟩
/-! lists of one file, and of two -/
section
variable {X Y : S75} {n m : Int}
theorem has1 (h : X.f0 = n) : hasL [X] n = true := by simp [hasL, h]
theorem get1 (h : X.f0 = n) : getL [X] n = X := by simp [getL, h]
theorem put1L (h : X.f0 = n) (h2 : Y.f0 = n) : putL [X] Y = [Y] := by simp [putL, delL, insL, h, h2]
theorem del1 (h : X.f0 = n) : delL [X] n = [] := by simp [delL, h]
theorem has1no (h : X.f0 < n) : hasL [X] n = false ∧ getL [X] n = z75 ∧ delL [X] n = [X] := hasL_false (fun y hy => by rw [List.mem_singleton.1 hy]; omega)
theorem put1no (h : X.f0 = n) (h2 : Y.f0 = m) (hnm : n < m) : putL [X] Y = [X, Y] := by
  have : ¬ Y.f0 < X.f0 := by omega
  simp [putL, (has1no (X := X) (n := Y.f0) (by omega)).2.2, insL, this]
theorem has2 (h : X.f0 = n) (h2 : Y.f0 = m) (hnm : n < m) : hasL [X, Y] m = true ∧ getL [X, Y] m = Y ∧ hasL [X, Y] n = true ∧ getL [X, Y] n = X ∧ delL [X, Y] n = [Y] ∧ delL [X, Y] m = [X] := by
  have e1 : ¬ X.f0 = m := by omega
  have e2 : ¬ Y.f0 = n := by omega
  have e3 : ¬ n = m := by omega
  have e4 : ¬ m = n := by omega
  simp [hasL, getL, delL, h, h2, e3, e4]
theorem put2 {Z : S75} (h : X.f0 = n) (h2 : Y.f0 = m) (hnm : n < m) (hz : Z.f0 = m) : putL [X, Y] Z = [X, Z] := by
  have : ¬ Z.f0 < X.f0 := by omega
  unfold putL
  rw [hz, (has2 h h2 hnm).2.2.2.2.2]
  simp [insL, this]
end
theorem ext_all (x : ByteArray) (z : Int) (h : z = (x.size : Int)) : x.extract 0 z.toNat = x := by
  rw [h, Int.toNat_natCast]
  exact bytesOf_inj (by rw [ext_bytes x 0 x.size x.size (bytesOf x) (by rw [List.drop_zero]) (by omega), List.take_of_length_le (by rw [size_bytesOf]; exact Nat.le_refl _)])
/-- A file that is safe whole stays. -/
theorem fall_safe (ks : List Int) (i : Nat) (n : Int) (x : ByteArray) (hx : 0 < x.size) : fallZ ks i ⟨n, x, (x.size : Int)⟩ = (x.size : Int) ∧ fallX ks i ⟨n, x, (x.size : Int)⟩ = ⟨n, x, (x.size : Int)⟩ := by
  have h := fallZ_in (ks := ks) (i := i) (x := ⟨n, x, (x.size : Int)⟩) ⟨by show (0 : Int) ≤ (x.size : Int); omega, Int.le_refl _, hx⟩
  have e : fallZ ks i ⟨n, x, (x.size : Int)⟩ = (x.size : Int) := by
    have h1 : (x.size : Int) ≤ fallZ ks i ⟨n, x, (x.size : Int)⟩ := h.1
    have h2 : fallZ ks i ⟨n, x, (x.size : Int)⟩ ≤ (x.size : Int) := h.2
    omega
  refine ⟨e, ?_⟩
  unfold fallX
  rw [e]
  show (⟨n, x.extract 0 ((x.size : Int)).toNat, (x.size : Int)⟩ : S75) = _
  rw [ext_all x _ rfl]
/-! #### a log that is whole -/
/-- The disk has just the file n, with these bodies' frames, and all of it is safe. -/
structure Whole (s : DS) (n : Int) (l : List ByteArray) : Prop where
  dead : s.dead = false
  L : s.L = [⟨n, catF 3 l, ((catF 3 l).size : Int)⟩]
  ne : l ≠ []
  sz : ∀ b ∈ l, b.size ≤ 30000
theorem cat_pos {l : List ByteArray} (h : l ≠ []) : 0 < (catF 3 l).size := by
  have h1 := catF_size l
  have h2 := FRL_len 3 l
  have h3 := List.length_pos_iff.2 h
  omega
theorem cat_app (l : List ByteArray) (b : ByteArray) : catF 3 l ++ FR 3 b = catF 3 (l ++ [b]) := by
  refine bytesOf_inj ?_
  rw [bytesOf_append, catF_bytes 3 v3, catF_bytes 3 v3, FRL_append, fr_bytes 3 v3, FRL, FRL, List.append_nil]
theorem Whole.num {s : DS} {n : Int} {l : List ByteArray} (h : Whole s n l) (hi : Inv s) : 0 ≤ n ∧ n ≤ 1000000 ∧ (catF 3 l).size ≤ 200000 ∧ useL s.L = ((catF 3 l).size : Int) := by
  have h1 := hi.num ⟨n, catF 3 l, ((catF 3 l).size : Int)⟩ (by rw [h.L]; exact List.mem_singleton.2 rfl)
  have h2 := hi.use
  have h3 := hi.room
  have h4 : useL s.L = ((catF 3 l).size : Int) := by rw [h.L]; simp [useL]
  exact ⟨h1.1, h1.2, by omega, h4⟩
theorem app_whole {s : DS} {n : Int} {l : List ByteArray} (hi : Inv s) (h : Whole s n l) (b : ByteArray) (hb : b.size ≤ 30000) :
    (s.room - useL s.L < ((FR 3 b).size : Int) ∧ writeS s n (FR 3 b) = (s, 151)) ∨
    (s.armed ≠ 0 ∧ (writeS s n (FR 3 b)).2 = 150 ∧ ∃ j, j ≤ (FR 3 b).size ∧ (writeS s n (FR 3 b)).1 = ⟨true, s.room, 0, [], [⟨n, (catF 3 (l ++ [b])).extract 0 ((catF 3 l).size + j), (((catF 3 l).size + j : Nat) : Int)⟩]⟩) ∨
    ((writeS s n (FR 3 b)).2 = 0 ∧ Whole (writeS s n (FR 3 b)).1 n (l ++ [b]) ∧ (writeS s n (FR 3 b)).1.room = s.room ∧ (s.armed = 0 → (writeS s n (FR 3 b)).1.armed = 0)) := by
  obtain ⟨n0, n1, hc, hu⟩ := h.num hi
  have hf := fr_small b hb
  have hp := cat_pos h.ne
  have hss : (catF 3 (l ++ [b])).size = (catF 3 l).size + (FR 3 b).size := by rw [← cat_app]; exact ByteArray.size_append
  have e1 : putL s.L (appF s n (FR 3 b)) = [⟨n, catF 3 (l ++ [b]), ((catF 3 l).size : Int)⟩] := by
    unfold appF
    rw [h.L, get1 rfl, put1L (n := n) rfl rfl]
    show [(⟨n, catF 3 l ++ FR 3 b, _⟩ : S75)] = _
    rw [cat_app]
  rcases write_cases s n (FR 3 b) _ [⟨n, catF 3 (l ++ [b]), ((catF 3 (l ++ [b])).size : Int)⟩] h.dead (by omega) (by omega) e1 (has1 rfl) (by rw [get1 rfl]; exact put1L (n := n) rfl rfl) with ⟨c, e⟩ | ⟨_, c, e2, e3⟩ | ⟨_, e2, a, ha, e3⟩
  · refine .inl ⟨?_, e⟩
    unfold fullB at c
    rw [h.L, has1 rfl] at c
    have c' := of_decide_eq_true (show decide (s.room - useL [⟨n, catF 3 l, ((catF 3 l).size : Int)⟩] < ((FR 3 b).size : Int)) = true by simpa using c)
    rw [h.L]
    exact c'
  · refine .inr (.inl ⟨c, e2, ?_⟩)
    have hz := fallZ_in (ks := s.keep) (i := 0) (x := ⟨n, catF 3 (l ++ [b]), ((catF 3 l).size : Int)⟩) ⟨by show (0:Int) ≤ ((catF 3 l).size : Int); omega, by show ((catF 3 l).size : Int) ≤ ((catF 3 (l ++ [b])).size : Int); omega, by show 0 < (catF 3 (l ++ [b])).size; omega⟩
    obtain ⟨z, hzz⟩ : ∃ z, fallZ s.keep 0 ⟨n, catF 3 (l ++ [b]), ((catF 3 l).size : Int)⟩ = z := ⟨_, rfl⟩
    have hz1 : ((catF 3 l).size : Int) ≤ z := by rw [← hzz]; exact hz.1
    have hz2 : z ≤ ((catF 3 (l ++ [b])).size : Int) := by rw [← hzz]; exact hz.2
    refine ⟨(z - ((catF 3 l).size : Int)).toNat, by omega, ?_⟩
    rw [e3]
    have e4 : (((catF 3 l).size + (z - ((catF 3 l).size : Int)).toNat : Nat) : Int) = z := by omega
    have e5 : (catF 3 l).size + (z - ((catF 3 l).size : Int)).toNat = z.toNat := by omega
    rw [e4, e5]
    simp only [fallL]
    rw [hzz, if_neg (by omega)]
    unfold fallX
    rw [hzz]
  · refine .inr (.inr ⟨e2, ?_, by rw [e3], fun h0 => by rw [e3]; exact ha h0⟩)
    rw [e3]
    exact ⟨rfl, rfl, by simp, fun x hx => by rcases List.mem_append.1 hx with hx | hx; exact h.sz x hx; rw [List.mem_singleton.1 hx]; exact hb⟩
theorem turn_whole {s : DS} {n : Int} {l : List ByteArray} (hi : Inv s) (h : Whole s n l) (hn : n < 1000000) (b : ByteArray) (hb : b.size ≤ 30000) :
    (s.room - useL s.L < ((FR 3 b).size : Int) ∧ writeS s (n + 1) (FR 3 b) = (s, 151)) ∨
    (s.armed ≠ 0 ∧ (writeS s (n + 1) (FR 3 b)).2 = 150 ∧ ∃ j, j ≤ (FR 3 b).size ∧ (writeS s (n + 1) (FR 3 b)).1 = ⟨true, s.room, 0, [], ⟨n, catF 3 l, ((catF 3 l).size : Int)⟩ :: (if j = 0 then [] else [⟨n + 1, (FR 3 b).extract 0 j, (j : Int)⟩])⟩) ∨
    ((writeS s (n + 1) (FR 3 b)).2 = 0 ∧ ((s.armed ≠ 0 ∧ (remS (writeS s (n + 1) (FR 3 b)).1 n).2 = 150 ∧ (remS (writeS s (n + 1) (FR 3 b)).1 n).1 = ⟨true, s.room, 0, [], [⟨n, catF 3 l, ((catF 3 l).size : Int)⟩, ⟨n + 1, FR 3 b, ((FR 3 b).size : Int)⟩]⟩) ∨
      ((remS (writeS s (n + 1) (FR 3 b)).1 n).2 = 0 ∧ Whole (remS (writeS s (n + 1) (FR 3 b)).1 n).1 (n + 1) [b] ∧ (remS (writeS s (n + 1) (FR 3 b)).1 n).1.room = s.room ∧ (s.armed = 0 → (remS (writeS s (n + 1) (FR 3 b)).1 n).1.armed = 0)))) := by
  obtain ⟨n0, n1, hc, hu⟩ := h.num hi
  have hf := fr_small b hb
  have hp := cat_pos h.ne
  obtain ⟨X, hX⟩ : ∃ X : S75, (⟨n, catF 3 l, ((catF 3 l).size : Int)⟩ : S75) = X := ⟨_, rfl⟩
  have hXn : X.f0 = n := by rw [← hX]
  have hL : s.L = [X] := by rw [h.L, hX]
  have hno := has1no (X := X) (n := n + 1) (by omega)
  have e1 : putL s.L (appF s (n + 1) (FR 3 b)) = [X, ⟨n + 1, FR 3 b, 0⟩] := by
    unfold appF
    rw [hL, hno.2.1, put1no (n := n) (m := n + 1) hXn rfl (by omega)]
    show [X, (⟨n + 1, z75.f1 ++ FR 3 b, z75.f2⟩ : S75)] = _
    rw [show z75.f1 ++ FR 3 b = FR 3 b from bytesOf_inj (by rw [bytesOf_append]; rfl)]
    rfl
  have h2 := has2 (X := X) (Y := ⟨n + 1, FR 3 b, 0⟩) (n := n) (m := n + 1) hXn rfl (by omega)
  rw [hX]
  have hfx := fall_safe s.keep 0 n (catF 3 l) hp
  rw [hX] at hfx
  rcases write_cases s (n + 1) (FR 3 b) _ [X, ⟨n + 1, FR 3 b, ((FR 3 b).size : Int)⟩] h.dead (by omega) (by omega) e1 h2.1 (by rw [h2.2.1]; exact put2 (n := n) (m := n + 1) hXn rfl (by omega) rfl) with ⟨c, e⟩ | ⟨_, c, e2, e3⟩ | ⟨_, e2, a, ha, e3⟩
  · refine .inl ⟨?_, e⟩
    unfold fullB at c
    rw [hL, hno.1] at c
    have c' := of_decide_eq_true (show decide (s.room - useL [X] < ((FR 3 b).size : Int)) = true by simpa using c)
    rw [hL]
    exact c'
  · refine .inr (.inl ⟨c, e2, ?_⟩)
    have hz := fallZ_in (ks := s.keep) (i := 1) (x := ⟨n + 1, FR 3 b, 0⟩) ⟨Int.le_refl _, by show (0:Int) ≤ ((FR 3 b).size : Int); omega, by show 0 < (FR 3 b).size; omega⟩
    obtain ⟨z, hzz⟩ : ∃ z, fallZ s.keep 1 ⟨n + 1, FR 3 b, 0⟩ = z := ⟨_, rfl⟩
    have hz1 : 0 ≤ z := by rw [← hzz]; exact hz.1
    have hz2 : z ≤ ((FR 3 b).size : Int) := by rw [← hzz]; exact hz.2
    refine ⟨z.toNat, by omega, ?_⟩
    rw [e3]
    simp only [fallL]
    have hzX : fallZ s.keep 0 X ≠ 0 := by rw [hfx.1]; omega
    rw [if_neg hzX, hfx.2, hzz]
    by_cases c0 : z = 0
    · rw [if_pos c0, if_pos (by omega)]
    · rw [if_neg c0, if_neg (by omega)]
      unfold fallX
      rw [hzz, Int.toNat_of_nonneg hz1]
  · refine .inr (.inr ⟨e2, ?_⟩)
    have h3 := has2 (X := X) (Y := ⟨n + 1, FR 3 b, ((FR 3 b).size : Int)⟩) (n := n) (m := n + 1) hXn rfl (by omega)
    rcases rem_cases (writeS s (n + 1) (FR 3 b)).1 n (by rw [e3]) (by rw [e3]; exact h3.2.2.1) with ⟨c, e4, e5⟩ | ⟨e4, a2, ha2, e5⟩
    · refine .inl ⟨?_, e4, ?_⟩
      · intro h0
        rw [e3] at c
        exact c (ha h0)
      · rw [e5, e3]
        simp only [fallL]
        have hzX : fallZ s.keep 0 X ≠ 0 := by rw [hfx.1]; omega
        have hfy := fall_safe s.keep 1 (n + 1) (FR 3 b) (by omega)
        rw [if_neg hzX, hfx.2, if_neg (by rw [hfy.1]; omega), hfy.2]
    · refine .inr ⟨e4, ?_, by rw [e5, e3], fun h0 => ?_⟩
      · rw [e5, e3]
        refine ⟨rfl, ?_, by simp, fun x hx => by rw [List.mem_singleton.1 hx]; exact hb⟩
        show delL [X, ⟨n + 1, FR 3 b, ((FR 3 b).size : Int)⟩] n = _
        rw [h3.2.2.2.2.1, catF, catF, app_E0]
      · rw [e5]
        rw [e3] at ha2
        exact ha2 (ha h0)
/-! #### what an opening comes to -/
structure Opens (s s3 : DS) (n : Int) (l : List ByteArray) : Prop where
  look : ∃ drop : List Int, Ev (fun k => segment_Look.f k s.L) (n, ((FRL 3 l).length : Int), l, drop, 0) ∧ drop.length ≤ 1 ∧ (∀ x ∈ drop, (Lit.int .i64 x).wf = true) ∧ dropO (cutO s n ((FRL 3 l).length : Int)) drop = (s3, 0)
  whole : Whole s3 n l
  alive : s.dead = false
  room : s3.room = s.room
  armed : s.armed = 0 → s3.armed = 0
  inv : Inv s
  num : 0 ≤ n ∧ n ≤ 1000000
theorem catF_one (b : ByteArray) : catF 3 [b] = FR 3 b := by rw [catF, catF, app_E0]
theorem fr_ext (b : ByteArray) (j : Nat) : bytesOf ((FR 3 b).extract 0 j) = (frB 3 b).take j := ext_bytes (FR 3 b) 0 j j (frB 3 b) (by rw [List.drop_zero, fr_bytes 3 v3]) (by omega)
theorem chg0 (s : DS) (L : List S75) (h : s.armed = 0) : chgS s L = ({ s with L := L }, 0) := by
  unfold chgS
  rw [if_neg (by simp [lastS, h])]
  unfold stepS
  rw [if_pos h]
theorem opens_whole {s : DS} {n : Int} {l : List ByteArray} (hi : Inv s) (h : Whole s n l) : Opens s s n l := by
  obtain ⟨n0, n1, hc, hu⟩ := h.num hi
  have hcs := catF_size l
  refine ⟨⟨[], ?_, by simp, by simp, ?_⟩, h, h.dead, rfl, fun h => h, hi, n0, n1⟩
  · rw [h.L]
    exact look_one n _ h.ne h.sz (by omega) (ends_cat l)
  · have e : cutO s n ((FRL 3 l).length : Int) = (s, 0) := by
      unfold cutO
      rw [if_neg]
      intro hh
      have h2 := hh.2
      unfold findF at h2
      rw [h.dead, if_neg (by simp), h.L, has1 rfl, if_pos rfl, get1 rfl] at h2
      have h2' : ((FRL 3 l).length : Int) < ((catF 3 l).size : Int) := h2
      omega
    rw [e]
    unfold dropO
    rw [if_pos rfl]
    rfl
theorem opens_app {room : Int} {n : Int} {l : List ByteArray} (hne : l ≠ []) (hsz : ∀ b ∈ l, b.size ≤ 30000) (b : ByteArray) (hb : b.size ≤ 30000) (j : Nat) (hj : j ≤ (FR 3 b).size)
    (hi : Inv ⟨false, room, 0, [], [⟨n, (catF 3 (l ++ [b])).extract 0 ((catF 3 l).size + j), (((catF 3 l).size + j : Nat) : Int)⟩]⟩) :
    ∃ s3, (Opens ⟨false, room, 0, [], [⟨n, (catF 3 (l ++ [b])).extract 0 ((catF 3 l).size + j), (((catF 3 l).size + j : Nat) : Int)⟩]⟩ s3 n l) ∨ (Opens ⟨false, room, 0, [], [⟨n, (catF 3 (l ++ [b])).extract 0 ((catF 3 l).size + j), (((catF 3 l).size + j : Nat) : Int)⟩]⟩ s3 n (l ++ [b])) := by
  have hf := fr_small b hb
  have hfs := fr_size 3 v3 b
  have hp := cat_pos hne
  have hss : (catF 3 (l ++ [b])).size = (catF 3 l).size + (FR 3 b).size := by rw [← cat_app]; exact ByteArray.size_append
  have hcs := catF_size l
  have hall : ∀ x ∈ l ++ [b], x.size ≤ 30000 := fun x hx => by rcases List.mem_append.1 hx with hx | hx; exact hsz x hx; rw [List.mem_singleton.1 hx]; exact hb
  obtain ⟨x, hx⟩ : ∃ x, (catF 3 (l ++ [b])).extract 0 ((catF 3 l).size + j) = x := ⟨_, rfl⟩
  have hxb : bytesOf x = FRL 3 l ++ (frB 3 b).take j := by
    rw [← hx, ext_bytes (catF 3 (l ++ [b])) 0 _ ((catF 3 l).size + j) (FRL 3 (l ++ [b])) (by rw [List.drop_zero, catF_bytes 3 v3]) (by omega), FRL_append, hcs, List.take_append, List.take_of_length_le (by omega), Nat.add_sub_cancel_left, FRL, FRL, List.append_nil]
  have hxs : x.size = (catF 3 l).size + j := by rw [← size_bytesOf, hxb, List.length_append, List.length_take, hcs]; omega
  rw [hx] at hi ⊢
  rw [← hxs] at hi ⊢
  by_cases c1 : j = (FR 3 b).size
  · have e : x = catF 3 (l ++ [b]) := by
      refine bytesOf_inj ?_
      rw [hxb, catF_bytes 3 v3, FRL_append, List.take_of_length_le (by omega), FRL, FRL, List.append_nil]
    exact ⟨_, .inr (opens_whole hi ⟨rfl, by rw [e], by simp, hall⟩)⟩
  · by_cases c0 : j = 0
    · have e : x = catF 3 l := by
        refine bytesOf_inj ?_
        rw [hxb, catF_bytes 3 v3, c0, List.take_zero, List.append_nil]
      exact ⟨_, .inl (opens_whole hi ⟨rfl, by rw [e], hne, hsz⟩)⟩
    · have hxi := hi.use
      have hxr := hi.room
      have hxu : useL [(⟨n, x, (x.size : Int)⟩ : S75)] = (x.size : Int) := by simp [useL]
      have hx6 : x.size ≤ 1000000 := by
        have h1 : useL [(⟨n, x, (x.size : Int)⟩ : S75)] ≤ room := hxi
        have h2 : room ≤ 200000 := hxr
        omega
      have hnn := hi.num ⟨n, x, (x.size : Int)⟩ (List.mem_singleton.2 rfl)
      have hn0 : 0 ≤ n := hnn.1
      have hE : Ends x l := ⟨_, hxb, .inr ⟨b, (frB 3 b).drop j, hb, List.take_append_drop _ _, by intro h; have := congrArg List.length h; rw [List.length_drop, List.length_nil] at this; omega⟩⟩
      have hxx : x.extract 0 (((FRL 3 l).length : Int)).toNat = catF 3 l := by
        refine bytesOf_inj ?_
        rw [ext_bytes x 0 _ (FRL 3 l).length (bytesOf x) (by rw [List.drop_zero]) (by omega), hxb, List.take_append_of_le_length (Nat.le_refl _), List.take_length, catF_bytes 3 v3]
      have hcut : cutO ⟨false, room, 0, [], [⟨n, x, (x.size : Int)⟩]⟩ n ((FRL 3 l).length : Int) = (⟨false, room, 0, [], [⟨n, catF 3 l, ((catF 3 l).size : Int)⟩]⟩, 0) := by
        unfold cutO
        have hF : findF ⟨false, room, 0, [], [⟨n, x, (x.size : Int)⟩]⟩ n = ⟨n, x, (x.size : Int)⟩ := by
          unfold findF
          rw [if_neg (by simp), has1 rfl, if_pos rfl, get1 rfl]
        rw [hF]
        rw [if_pos ⟨hn0, by show ((FRL 3 l).length : Int) < (x.size : Int); omega⟩]
        unfold cutS
        rw [if_pos (by simp [findE, has1 (X := ⟨n, x, (x.size : Int)⟩) (n := n) rfl]), get1 rfl]
        rw [if_neg (by show ¬ (((FRL 3 l).length : Int) < 1 ∨ ((FRL 3 l).length : Int) > (x.size : Int)); omega)]
        rw [chg0 _ _ rfl, put1L (n := n) rfl rfl, hxx, ← hcs]
      exact ⟨⟨false, room, 0, [], [⟨n, catF 3 l, ((catF 3 l).size : Int)⟩]⟩, .inl ⟨⟨[], look_one n _ hne hsz hx6 hE, by simp, by simp, by rw [hcut]; unfold dropO; rw [if_pos rfl]; rfl⟩, ⟨rfl, rfl, hne, hsz⟩, rfl, rfl, fun _ => rfl, hi, hnn⟩⟩
theorem opens_turn {room : Int} {n : Int} {l : List ByteArray} (hne : l ≠ []) (hsz : ∀ b ∈ l, b.size ≤ 30000) (b : ByteArray) (hb : b.size ≤ 30000) (j : Nat) (hj : j ≤ (FR 3 b).size)
    (hi : Inv ⟨false, room, 0, [], ⟨n, catF 3 l, ((catF 3 l).size : Int)⟩ :: (if j = 0 then [] else [⟨n + 1, (FR 3 b).extract 0 j, (j : Int)⟩])⟩) :
    ∃ s3, (Opens ⟨false, room, 0, [], ⟨n, catF 3 l, ((catF 3 l).size : Int)⟩ :: (if j = 0 then [] else [⟨n + 1, (FR 3 b).extract 0 j, (j : Int)⟩])⟩ s3 n l) ∨ (Opens ⟨false, room, 0, [], ⟨n, catF 3 l, ((catF 3 l).size : Int)⟩ :: (if j = 0 then [] else [⟨n + 1, (FR 3 b).extract 0 j, (j : Int)⟩])⟩ s3 (n + 1) [b]) := by
  have hf := fr_small b hb
  have hfs := fr_size 3 v3 b
  have hp := cat_pos hne
  have hcs := catF_size l
  by_cases c0 : j = 0
  · rw [if_pos c0] at hi ⊢
    exact ⟨_, .inl (opens_whole hi ⟨rfl, rfl, hne, hsz⟩)⟩
  rw [if_neg c0] at hi ⊢
  have hxi := hi.use
  have hxr := hi.room
  have hn2 := hi.num ⟨n + 1, (FR 3 b).extract 0 j, (j : Int)⟩ (by simp)
  have hn1 := hi.num ⟨n, catF 3 l, ((catF 3 l).size : Int)⟩ (by simp)
  have hm1 : 0 ≤ n := hn1.1
  have hm2 : n + 1 ≤ 1000000 := hn2.2
  obtain ⟨X, hX⟩ : ∃ X : S75, (⟨n, catF 3 l, ((catF 3 l).size : Int)⟩ : S75) = X := ⟨_, rfl⟩
  have hXn : X.f0 = n := by rw [← hX]
  have hXs : X.f1.size = (catF 3 l).size := by rw [← hX]
  have hx6 : (catF 3 l).size ≤ 1000000 := by
    have h1 : useL [(⟨n, catF 3 l, ((catF 3 l).size : Int)⟩ : S75), ⟨n + 1, (FR 3 b).extract 0 j, (j : Int)⟩] ≤ room := hxi
    have h2 : room ≤ 200000 := hxr
    have h3 : useL [(⟨n, catF 3 l, ((catF 3 l).size : Int)⟩ : S75), ⟨n + 1, (FR 3 b).extract 0 j, (j : Int)⟩] = ((catF 3 l).size : Int) + (((FR 3 b).extract 0 j).size : Int) := by simp [useL]
    omega
  by_cases c1 : j < (FR 3 b).size
  · have hlk := look_torn n (n + 1) ((catF 3 l).size : Int) (j : Int) (by omega) hne hsz hx6 (ends_cat l) b hb j (by omega) (by omega)
    have h2 := has2 (X := X) (Y := ⟨n + 1, (FR 3 b).extract 0 j, (j : Int)⟩) (n := n) (m := n + 1) hXn rfl (by omega)
    have hcut : cutO ⟨false, room, 0, [], [X, ⟨n + 1, (FR 3 b).extract 0 j, (j : Int)⟩]⟩ n ((FRL 3 l).length : Int) = (⟨false, room, 0, [], [X, ⟨n + 1, (FR 3 b).extract 0 j, (j : Int)⟩]⟩, 0) := by
      unfold cutO
      rw [if_neg]
      intro hh
      have h3 := hh.2
      unfold findF at h3
      rw [if_neg (by simp), h2.2.2.1, if_pos rfl, h2.2.2.2.1] at h3
      omega
    have hdrop : dropO (cutO ⟨false, room, 0, [], [X, ⟨n + 1, (FR 3 b).extract 0 j, (j : Int)⟩]⟩ n ((FRL 3 l).length : Int)) [n + 1] = (⟨false, room, 0, [], [X]⟩, 0) := by
      rw [hcut]
      unfold dropO
      rw [if_pos rfl, dropS_one]
      unfold remS
      rw [if_pos (by simp [findE, h2.1]), chg0 _ _ rfl, h2.2.2.2.2.2]
    rw [← hX] at hdrop
    exact ⟨⟨false, room, 0, [], [⟨n, catF 3 l, ((catF 3 l).size : Int)⟩]⟩, .inl ⟨⟨[n + 1], hlk, by simp, fun x hx => by rw [List.mem_singleton.1 hx]; exact wfn (by omega) (by omega), hdrop⟩, ⟨rfl, rfl, hne, hsz⟩, rfl, rfl, fun _ => rfl, hi, hn1⟩⟩
  · have ej : (FR 3 b).extract 0 j = FR 3 b := bytesOf_inj (by rw [fr_ext, fr_bytes 3 v3, List.take_of_length_le (by omega)])
    have ej2 : (j : Int) = ((FR 3 b).size : Int) := by omega
    rw [ej, ej2] at hi hxi hn2 ⊢
    have hlb : (FRL 3 [b]).length = (FR 3 b).size := by rw [← catF_size, catF_one]
    have hlk := look_new n (n + 1) ((catF 3 l).size : Int) ((FR 3 b).size : Int) (by omega) (catF 3 l) hx6 (t := FR 3 b) (l := [b]) (by simp) (fun x hx => by rw [List.mem_singleton.1 hx]; exact hb) (by omega) (by rw [← catF_one]; exact ends_cat [b])
    have h2 := has2 (X := X) (Y := ⟨n + 1, FR 3 b, ((FR 3 b).size : Int)⟩) (n := n) (m := n + 1) hXn rfl (by omega)
    have hcut : cutO ⟨false, room, 0, [], [X, ⟨n + 1, FR 3 b, ((FR 3 b).size : Int)⟩]⟩ (n + 1) ((FRL 3 [b]).length : Int) = (⟨false, room, 0, [], [X, ⟨n + 1, FR 3 b, ((FR 3 b).size : Int)⟩]⟩, 0) := by
      unfold cutO
      rw [if_neg]
      intro hh
      have h3 := hh.2
      unfold findF at h3
      rw [if_neg (by simp), h2.1, if_pos rfl, h2.2.1] at h3
      have h3' : ((FRL 3 [b]).length : Int) < ((FR 3 b).size : Int) := h3
      omega
    have hdrop : dropO (cutO ⟨false, room, 0, [], [X, ⟨n + 1, FR 3 b, ((FR 3 b).size : Int)⟩]⟩ (n + 1) ((FRL 3 [b]).length : Int)) [n] = (⟨false, room, 0, [], [⟨n + 1, FR 3 b, ((FR 3 b).size : Int)⟩]⟩, 0) := by
      rw [hcut]
      unfold dropO
      rw [if_pos rfl, dropS_one]
      unfold remS
      rw [if_pos (by simp [findE, h2.2.2.1]), chg0 _ _ rfl, h2.2.2.2.2.1]
    rw [← hX] at hdrop
    exact ⟨⟨false, room, 0, [], [⟨n + 1, FR 3 b, ((FR 3 b).size : Int)⟩]⟩, .inr ⟨⟨[n], hlk, by simp, fun x hx => by rw [List.mem_singleton.1 hx]; exact wfn (by omega) (by omega), hdrop⟩, ⟨rfl, by rw [catF_one], by simp, fun x hx => by rw [List.mem_singleton.1 hx]; exact hb⟩, rfl, rfl, fun _ => rfl, hi, hn2⟩⟩

end Go.Proofs.Ytkcpgaplpmbmoaa.PA
