/- Bytes as whole numbers, and numbers laid as groups of seven bits: plain laws, of no program. -/
import Derived.Test.YtkcpgaplpmbmoaaGreatWMore
import Derived.Laws.BitsLemmas
import Derived.Lib.Strings
namespace Go.Proofs.YtkcpgaplpmbmoaaGreat.Num
open Go.RowKit Go.Proofs.YtkcpgaplpmbmoaaGreatW.PrintWords Go.Proofs.YtkcpgaplpmbmoaaGreatW.PrintLast Go.Proofs.YtkcpgaplpmbmoaaGreatW.PrintMore
set_option linter.unusedVariables false
set_option linter.unusedSimpArgs false

/-! ### rounds -/
theorem ev_shift {α : Type} {g f : Nat → Option α} {r : α} (n : Nat) (h : ∀ k, g (k + n) = f k) (hf : Ev f r) : Ev g r := by
  obtain ⟨K, hf⟩ := hf
  refine ⟨K + n, fun k hk => ?_⟩
  obtain ⟨m, rfl⟩ : ∃ m, k = m + n := ⟨k - n, by omega⟩
  rw [h]
  exact hf m (by omega)
theorem ev_up {α : Type} {g : Nat → Option α} {r : α} (n : Nat) (hf : Ev g r) : Ev (fun k => g (k + n)) r := by
  obtain ⟨K, hf⟩ := hf
  exact ⟨K, fun k hk => hf (k + n) (by omega)⟩
theorem ev_const {α : Type} {g : Nat → Option α} {r : α} (h : ∀ k, g k = some r) : Ev g r := ⟨0, fun k _ => h k⟩
theorem wr (n : Int) (h : -9223372036854775808 ≤ n ∧ n ≤ 9223372036854775807) : wrap64 n = n := by unfold wrap64; omega
theorem uw (n : Int) (h : 0 ≤ n ∧ n < 18446744073709551616) : IntKind.u64.wrap n = n := by
  simp [IntKind.wrap, IntKind.bits, IntKind.signed]; omega
theorem uw_eq (n : Int) : IntKind.u64.wrap n = n % 18446744073709551616 := by
  simp [IntKind.wrap, IntKind.bits, IntKind.signed]

/-! ### texts as lists of numbers -/
theorem bytesOf_inj {s t : ByteArray} (h : bytesOf s = bytesOf t) : s = t := by
  have h1 : s.data.toList = t.data.toList := by
    have := congrArg (List.map fun n : Int => UInt8.ofNat n.toNat) h
    simpa [bytesOf, Function.comp_def] using this
  cases s; cases t
  simp only [ByteArray.mk.injEq]
  exact Array.toList_inj.1 h1
theorem toList_iff {s t : ByteArray} : s.toList = t.toList ↔ s = t := by
  rw [Lib.toList_data, Lib.toList_data]
  constructor
  · intro h
    exact bytesOf_inj (by unfold bytesOf; rw [h])
  · intro h; rw [h]
def Byte (n : Int) : Prop := 0 ≤ n ∧ n ≤ 255
theorem bytesOf_byte (s : ByteArray) : ∀ x ∈ bytesOf s, Byte x := by
  intro x hx
  unfold bytesOf at hx
  obtain ⟨b, _, rfl⟩ := List.mem_map.1 hx
  have := b.toNat_lt
  unfold Byte; omega
theorem bytesOf_nums (xs : List Int) (h : ∀ x ∈ xs, Byte x) : bytesOf (strOfNums xs) = xs := by
  unfold bytesOf
  rw [strOfNums_data, List.map_map]
  conv => rhs; rw [← List.map_id xs]
  refine List.map_congr_left fun x hx => ?_
  have := h x hx
  unfold Byte at this
  simp only [Function.comp, UInt8.toNat_ofNat', id]
  omega
theorem nums_bytesOf (s : ByteArray) : strOfNums (bytesOf s) = s := bytesOf_inj (bytesOf_nums _ (bytesOf_byte s))
theorem bytesOf_append (s t : ByteArray) : bytesOf (s ++ t) = bytesOf s ++ bytesOf t := by
  unfold bytesOf
  rw [ByteArray.data_append, Array.toList_append, List.map_append]
theorem nums_append (xs ys : List Int) : strOfNums (xs ++ ys) = strOfNums xs ++ strOfNums ys := by
  have : ∀ a b : ByteArray, a.data = b.data → a = b := fun a b h => by cases a; cases b; simp_all
  apply this
  rw [ByteArray.data_append]
  unfold strOfNums
  simp
theorem bytesOf_extract (s : ByteArray) (a b : Nat) : bytesOf (s.extract a b) = ((bytesOf s).take b).drop a := by
  unfold bytesOf
  rw [Lib.extract_data, List.drop_take, List.map_take, List.map_drop]
theorem bytesOf_empty : bytesOf ByteArray.empty = [] := by
  unfold bytesOf
  rfl
theorem size_bytesOf (s : ByteArray) : (bytesOf s).length = s.size := bytesOf_length s
theorem bt_nat (s : ByteArray) (i : Nat) (h : i < s.size) : bt s (i : Int) = (bytesOf s)[i]'(by rw [bytesOf_length]; exact h) := by
  rw [← rd_bytesOf]
  unfold rd
  simp [List.getD_eq_getElem?_getD, List.getElem?_eq_getElem (show i < (bytesOf s).length by rw [bytesOf_length]; exact h)]
theorem drop_cons (l : List Int) (i : Nat) (h : i < l.length) : l.drop i = rd l (i : Int) :: l.drop (i + 1) := by
  unfold rd
  rw [List.drop_eq_getElem_cons h]
  simp [List.getD_eq_getElem?_getD, List.getElem?_eq_getElem h]

/-! ### bits -/
theorem or128 (a : Int) (h : 0 ≤ a ∧ a < 256) : Go.bits .or .u8 a 128 = a % 128 + 128 := by
  have all : ∀ n : Fin 256, Go.bits .or .u8 ((n.val : Nat) : Int) 128 = ((n.val : Nat) : Int) % 128 + 128 := by decide +kernel
  obtain ⟨n, rfl⟩ := Int.eq_ofNat_of_zero_le h.1
  exact all ⟨n, by omega⟩
theorem and127 (a : Int) (h : 0 ≤ a ∧ a < 256) : Go.bits .and .u8 a 127 = a % 128 := by
  have all : ∀ n : Fin 256, Go.bits .and .u8 ((n.val : Nat) : Int) 127 = ((n.val : Nat) : Int) % 128 := by decide +kernel
  obtain ⟨n, rfl⟩ := Int.eq_ofNat_of_zero_le h.1
  exact all ⟨n, by omega⟩
theorem wraps_u64 (n : Int) (h₀ : 0 ≤ n) (h₁ : n < 2 ^ 64) : IntKind.u64.wrap n = n := uw n ⟨h₀, by simpa using h₁⟩
theorem and1 (n : Int) (h : 0 ≤ n ∧ n < 18446744073709551616) : Go.bits .and .u64 n 1 = n % 2 := by
  have := bits_mask .u64 64 (by decide) wraps_u64 1 (by decide) n h.1 (by simpa using h.2)
  simpa using this
theorem or_join (x y : Nat) (i : Nat) (hx : x < 2 ^ i) (hy : y % 2 ^ i = 0) (hx64 : x < 2 ^ 64) (hy64 : y < 2 ^ 64) : Go.bits .or .u64 (x : Int) (y : Int) = (x : Int) + (y : Int) := by
  have h1 := (bits_nat .u64 64 (by decide) wraps_u64 y x hy64 hx64).2
  have h2 := bits_join .u64 64 (by decide) wraps_u64 i (y : Int) (x : Int) (by omega) (by exact_mod_cast hy) (by exact_mod_cast hy64) (by omega) (by exact_mod_cast hx) (by exact_mod_cast hx64)
  have h3 := (bits_nat .u64 64 (by decide) wraps_u64 x y hx64 hy64).2
  rw [h3, Nat.or_comm, ← h1, h2, Int.add_comm]
theorem xor_zero (n : Int) (h : 0 ≤ n ∧ n < 18446744073709551616) : Go.bits .xor .u64 n 0 = n := by
  obtain ⟨m, rfl⟩ := Int.eq_ofNat_of_zero_le h.1
  simp only [Go.bits, BitVec.ofInt_natCast]
  rw [show (BitVec.ofInt IntKind.u64.bits 0) = 0#_ from rfl, BitVec.xor_zero, BitVec.toNat_ofNat, Nat.mod_eq_of_lt (by simp [IntKind.bits]; omega)]
  exact uw _ h
theorem xor_ones (n : Int) (h : 0 ≤ n ∧ n < 18446744073709551616) : Go.bits .xor .u64 n 18446744073709551615 = 18446744073709551615 - n := by
  obtain ⟨m, rfl⟩ := Int.eq_ofNat_of_zero_le h.1
  simp only [Go.bits, BitVec.ofInt_natCast]
  rw [show (BitVec.ofInt IntKind.u64.bits 18446744073709551615) = BitVec.allOnes _ from rfl, BitVec.xor_allOnes, BitVec.toNat_not, BitVec.toNat_ofNat, Nat.mod_eq_of_lt (by simp [IntKind.bits]; omega)]
  rw [uw _ ⟨by omega, by simp [IntKind.bits]; omega⟩]
  simp [IntKind.bits]
  omega
theorem xor_i0 (n : Int) (h : 0 ≤ n ∧ n ≤ 9223372036854775807) : Go.bits .xor .i64 n 0 = n := by
  obtain ⟨m, rfl⟩ := Int.eq_ofNat_of_zero_le h.1
  simp only [Go.bits, BitVec.ofInt_natCast]
  rw [show (BitVec.ofInt IntKind.i64.bits 0) = 0#_ from rfl, BitVec.xor_zero, BitVec.toNat_ofNat, Nat.mod_eq_of_lt (by simp [IntKind.bits]; omega), IntKind.wrap_i64]
  omega
theorem xor_im (n : Int) (h : 0 ≤ n ∧ n ≤ 9223372036854775807) : Go.bits .xor .i64 n (-1) = -n - 1 := by
  obtain ⟨m, rfl⟩ := Int.eq_ofNat_of_zero_le h.1
  simp only [Go.bits, BitVec.ofInt_natCast]
  rw [show (BitVec.ofInt IntKind.i64.bits (-1)) = BitVec.allOnes _ from rfl, BitVec.xor_allOnes, BitVec.toNat_not, BitVec.toNat_ofNat, Nat.mod_eq_of_lt (by simp [IntKind.bits]; omega), IntKind.wrap_i64]
  simp only [IntKind.bits]
  omega

/-! ### a number's groups of seven bits -/
def numS (n : Nat) : List Int := if n < 128 then [(n : Int)] else ((n % 128 + 128 : Nat) : Int) :: numS (n / 128)
termination_by n
decreasing_by omega
theorem numS_small {n : Nat} (h : n < 128) : numS n = [(n : Int)] := by rw [numS, if_pos h]
theorem numS_big {n : Nat} (h : ¬ n < 128) : numS n = ((n % 128 + 128 : Nat) : Int) :: numS (n / 128) := by rw [numS, if_neg h]
theorem numS_byte (n : Nat) : ∀ x ∈ numS n, Byte x := by
  induction n using Nat.strongRecOn with
  | _ n ih =>
    by_cases h : n < 128
    · rw [numS_small h]; intro x hx; rw [List.mem_singleton.1 hx]; unfold Byte; omega
    · rw [numS_big h]; intro x hx
      rcases List.mem_cons.1 hx with rfl | hx
      · unfold Byte; omega
      · exact ih _ (by omega) x hx
theorem numS_pos (n : Nat) : 1 ≤ (numS n).length := by
  by_cases h : n < 128
  · rw [numS_small h]; simp
  · rw [numS_big h]; simp
theorem numS_len (m : Nat) : ∀ n : Nat, n < 128 ^ (m + 1) → (numS n).length ≤ m + 1 := by
  induction m with
  | zero => intro n h; rw [numS_small (by simpa using h)]; simp
  | succ m ih =>
    intro n h
    by_cases c : n < 128
    · rw [numS_small c]; simp
    · rw [numS_big c, List.length_cons]
      have : n / 128 < 128 ^ (m + 1) := by rw [Nat.div_lt_iff_lt_mul (by decide)]; rw [Nat.pow_succ] at h; exact h
      have := ih _ this
      omega
theorem numS_ten (n : Nat) (h : n < 18446744073709551616) : (numS n).length ≤ 10 := numS_len 9 n (by omega)
/-- The number that groups are. -/
def valS : List Int → Int
  | [] => 0
  | x :: l => x % 128 + 128 * valS l
theorem valS_numS (n : Nat) : valS (numS n) = (n : Int) := by
  induction n using Nat.strongRecOn with
  | _ n ih =>
    by_cases h : n < 128
    · rw [numS_small h]; simp only [valS]; omega
    · rw [numS_big h]; simp only [valS]; rw [ih _ (by omega)]; omega
theorem numS_inj {a b : Nat} (h : numS a = numS b) : a = b := by
  have := congrArg valS h
  rw [valS_numS, valS_numS] at this
  omega
/-- Groups that a number has: all but the last one are 128 and more, the last one is below, and not 0 if there is one ahead. -/
def Canon : List Int → Prop
  | [] => False
  | [x] => 0 ≤ x ∧ x < 128
  | x :: y :: l => 128 ≤ x ∧ x ≤ 255 ∧ Canon (y :: l) ∧ (y :: l ≠ [0])
theorem canon_numS (n : Nat) : Canon (numS n) := by
  induction n using Nat.strongRecOn with
  | _ n ih =>
    by_cases h : n < 128
    · rw [numS_small h]; simp only [Canon]; omega
    · rw [numS_big h]
      have i1 := ih (n / 128) (by omega)
      have p := numS_pos (n / 128)
      match hl : numS (n / 128), p with
      | y :: l, _ =>
        rw [hl] at i1
        simp only [Canon]
        refine ⟨by omega, by omega, i1, fun e => ?_⟩
        have := valS_numS (n / 128)
        rw [hl, e] at this
        simp [valS] at this
        omega
theorem valS_nonneg (l : List Int) : 0 ≤ valS l := by
  induction l with
  | nil => simp [valS]
  | cons x l ih => simp only [valS]; omega
theorem canon_val (l : List Int) (h : Canon l) : numS (valS l).toNat = l := by
  induction l with
  | nil => exact absurd h (by simp [Canon])
  | cons x l ih =>
    match l, h, ih with
    | [], h, _ =>
      simp only [Canon] at h
      simp only [valS]
      rw [numS_small (by omega)]
      congr 1
      omega
    | y :: l, h, ih =>
      obtain ⟨h1, h2, h3, h4⟩ := h
      have e := ih h3
      have hv := valS_nonneg (y :: l)
      have hv1 : 1 ≤ valS (y :: l) := by
        by_cases c : valS (y :: l) < 1
        · exfalso
          have : valS (y :: l) = 0 := by omega
          rw [this] at e
          rw [show (0 : Int).toNat = 0 from rfl, numS_small (by decide)] at e
          exact h4 e.symm
        · omega
      have e1 : valS (x :: y :: l) = x % 128 + 128 * valS (y :: l) := rfl
      rw [e1, numS_big (by omega)]
      have q1 : (x % 128 + 128 * valS (y :: l)).toNat / 128 = (valS (y :: l)).toNat := by omega
      rw [q1, e]
      congr 1
      omega
theorem canon_head (x : Int) (l : List Int) (h : Canon (x :: l)) : (x < 128 ↔ l = []) := by
  match l, h with
  | [], h => simp only [Canon] at h; simp [h.2]
  | y :: l, h => simp only [Canon] at h; simp; omega
/-- Forms of unlike numbers don't begin with each other. -/
theorem canon_prefix (l m r : List Int) (hl : Canon l) (hm : Canon m) (h : l ++ r = m) : r = [] := by
  induction l generalizing m with
  | nil => exact absurd hl (by simp [Canon])
  | cons x l ih =>
    match m, hm, h with
    | y :: m, hm, h =>
      simp only [List.cons_append, List.cons.injEq] at h
      obtain ⟨rfl, h⟩ := h
      have a := canon_head x l hl
      have b := canon_head x m hm
      match l, m, hl, hm, h, a, b, ih with
      | [], [], _, _, h, _, _, _ => simpa using h
      | [], z :: m, hl, hm, h, a, b, _ => simp at a b; omega
      | z :: l, [], hl, hm, h, a, b, _ => simp at h
      | z :: l, z2 :: m, hl, hm, h, a, b, ih => exact ih _ hl.2.2.1 hm.2.2.1 h
theorem numS_mono (a : Nat) : ∀ b : Nat, b ≤ a → (numS b).length ≤ (numS a).length := by
  induction a using Nat.strongRecOn with
  | _ a ih =>
    intro b hb
    by_cases h : b < 128
    · rw [numS_small h]; exact numS_pos a
    · rw [numS_big h, numS_big (by omega : ¬ a < 128), List.length_cons, List.length_cons]
      have := ih (a / 128) (by omega) (b / 128) (by omega)
      omega

/-! ### a number, taken -/
theorem valS_append (l m : List Int) : valS (l ++ m) = valS l + 128 ^ l.length * valS m := by
  induction l with
  | nil => simp [valS]
  | cons x l ih =>
    simp only [List.cons_append, valS, ih, List.length_cons, Int.pow_succ]
    rw [Int.mul_add, ← Int.mul_assoc, Int.mul_comm 128 (128 ^ l.length)]
    omega
theorem valS_lt (l : List Int) : valS l < 128 ^ l.length := by
  induction l with
  | nil => simp [valS]
  | cons x l ih =>
    simp only [valS, List.length_cons, Int.pow_succ]
    omega
theorem valS_one (c : Int) (h : 0 ≤ c ∧ c < 128) : valS [c] = c := by simp only [valS]; omega
/-- What is taken of bytes: the number, how many bytes, the error; i bytes are behind, which are n. -/
def tnS : List Int → Nat → Int → Int × Int × Int
  | [], i, _ => if i < 10 then (0, 0, 10) else (0, 0, 11)
  | c :: l, i, n => if 10 ≤ i then (0, 0, 11) else if i = 9 ∧ c > 1 then (0, 0, 11) else if c ≥ 128 then tnS l (i + 1) (n + c % 128 * 128 ^ i) else if c = 0 ∧ i > 0 then (0, 0, 11) else (n + c * 128 ^ i, i + 1, 0)
theorem tnS_err (l : List Int) : ∀ (i : Nat) (n : Int), (tnS l i n).2.2 = 0 ∨ ((tnS l i n).1 = 0 ∧ (tnS l i n).2.1 = 0 ∧ ((tnS l i n).2.2 = 10 ∨ (tnS l i n).2.2 = 11)) := by
  induction l with
  | nil => intro i n; simp only [tnS]; split <;> simp
  | cons c l ih =>
    intro i n
    simp only [tnS]
    split
    · simp
    · split
      · simp
      · split
        · exact ih _ _
        · split <;> simp
/-- All of them 128 and more. -/
def High (p : List Int) : Prop := ∀ x ∈ p, 128 ≤ x ∧ x ≤ 255
theorem canon_snoc (p : List Int) (c : Int) (hp : High p) (hc : 0 ≤ c ∧ c < 128) (h0 : c ≠ 0 ∨ p = []) : Canon (p ++ [c]) := by
  induction p with
  | nil => simp only [List.nil_append, Canon]; exact hc
  | cons x p ih =>
    have hx := hp x (List.mem_cons_self ..)
    have hc0 : c ≠ 0 := by rcases h0 with h | h; · exact h
                           · simp at h
    have i1 := ih (fun y hy => hp y (List.mem_cons_of_mem _ hy)) (.inl hc0)
    match p, i1 with
    | [], i1 => simp only [List.nil_append, List.cons_append, Canon]; exact ⟨hx.1, hx.2, hc, by simp [hc0]⟩
    | y :: p, i1 => simp only [List.cons_append, Canon]; exact ⟨hx.1, hx.2, i1, by simp⟩
theorem canon_parts (l : List Int) (h : Canon l) : ∃ p c, l = p ++ [c] ∧ High p ∧ 0 ≤ c ∧ c < 128 ∧ (c ≠ 0 ∨ p = []) := by
  induction l with
  | nil => exact absurd h (by simp [Canon])
  | cons x l ih =>
    match l, h, ih with
    | [], h, _ =>
      simp only [Canon] at h
      exact ⟨[], x, rfl, fun y hy => by simp at hy, h.1, h.2, .inr rfl⟩
    | y :: l, h, ih =>
      obtain ⟨h1, h2, h3, h4⟩ := h
      obtain ⟨p, c, e, hp, c0, c1, hc⟩ := ih h3
      refine ⟨x :: p, c, by rw [e]; rfl, fun z hz => ?_, c0, c1, .inl ?_⟩
      · rcases List.mem_cons.1 hz with rfl | hz
        · exact ⟨h1, h2⟩
        · exact hp z hz
      · rcases hc with hc | hc
        · exact hc
        · subst hc
          rintro rfl
          exact h4 (by simpa using e)
/-- Bytes of 128 and more are gone over. -/
theorem tnS_high (p : List Int) (hp : High p) (r : List Int) : ∀ (i : Nat) (n : Int), i + p.length ≤ 9 → tnS (p ++ r) i n = tnS r (i + p.length) (n + 128 ^ i * valS p) := by
  induction p with
  | nil => intro i n _; simp [valS]
  | cons x p ih =>
    intro i n hi
    have hx := hp x (List.mem_cons_self ..)
    simp only [List.length_cons] at hi
    simp only [List.cons_append, tnS]
    rw [if_neg (by omega), if_neg (by omega), if_pos hx.1, ih (fun y hy => hp y (List.mem_cons_of_mem _ hy)) _ _ (by omega)]
    simp only [valS, List.length_cons]
    rw [show i + 1 + p.length = i + (p.length + 1) by omega]
    congr 1
    rw [Int.pow_succ, Int.mul_add, Int.mul_comm (128 ^ i) (x % 128), Int.mul_assoc, Int.add_assoc]
/-- The whole of what is taken, by the bytes ahead of the first that is below 128. -/
theorem tnS_stop (p : List Int) (c : Int) (r : List Int) (hp : High p) (hl : p.length ≤ 9) (hc : 0 ≤ c ∧ c < 128) :
    tnS (p ++ c :: r) 0 0 = if p.length = 9 ∧ c > 1 then (0, 0, 11) else if c = 0 ∧ p.length > 0 then (0, 0, 11) else (valS (p ++ [c]), (p.length : Int) + 1, 0) := by
  rw [tnS_high p hp _ 0 0 (by omega)]
  simp only [tnS, Nat.zero_add, Int.pow_zero, Int.one_mul, Int.zero_add]
  rw [if_neg (by omega)]
  by_cases h1 : p.length = 9 ∧ c > 1
  · rw [if_pos h1, if_pos h1]
  · rw [if_neg h1, if_neg h1, if_neg (by omega)]
    by_cases h2 : c = 0 ∧ p.length > 0
    · rw [if_pos h2, if_pos h2]
    · rw [if_neg h2, if_neg h2, valS_append, valS_one c hc, Int.mul_comm]
theorem tnS_end (p : List Int) (hp : High p) (hl : p.length ≤ 9) : tnS p 0 0 = (0, 0, 10) := by
  have := tnS_high p hp [] 0 0 (by omega)
  rw [List.append_nil] at this
  rw [this]
  simp only [tnS]
  rw [if_pos (by omega)]
theorem tnS_much (p : List Int) (r : List Int) (hp : High p) (hl : p.length = 10) : tnS (p ++ r) 0 0 = (0, 0, 11) := by
  obtain ⟨q, x, rfl⟩ : ∃ q x, p = q ++ [x] := ⟨p.dropLast, p.getLast (by intro e; rw [e] at hl; simp at hl), (List.dropLast_concat_getLast _).symm⟩
  have hx := hp x (by simp)
  have hq : High q := fun y hy => hp y (by simp [hy])
  rw [List.append_assoc, tnS_high q hq _ 0 0 (by simp at hl; omega)]
  simp only [List.cons_append, List.nil_append, tnS]
  simp at hl
  rw [if_neg (by omega), if_pos (by omega)]
/-- Any bytes: ahead of the first below 128, or ten of 128 and more. -/
theorem high_split (l : List Int) (hb : ∀ x ∈ l, Byte x) : (∃ p r, l = p ++ r ∧ High p ∧ p.length = 10) ∨ (∃ p, l = p ∧ High p ∧ p.length ≤ 9) ∨ (∃ p c r, l = p ++ c :: r ∧ High p ∧ p.length ≤ 9 ∧ 0 ≤ c ∧ c < 128) := by
  have gen : ∀ (m : Nat) (l : List Int), (∀ x ∈ l, Byte x) → (∃ p r, l = p ++ r ∧ High p ∧ p.length = m + 1) ∨ (∃ p, l = p ∧ High p ∧ p.length ≤ m) ∨ (∃ p c r, l = p ++ c :: r ∧ High p ∧ p.length ≤ m ∧ 0 ≤ c ∧ c < 128) := by
    intro m
    induction m with
    | zero =>
      intro l hb
      match l with
      | [] => exact .inr (.inl ⟨[], rfl, fun x hx => by simp at hx, by simp⟩)
      | x :: l =>
        have hx := hb x (List.mem_cons_self ..)
        unfold Byte at hx
        by_cases h : x < 128
        · exact .inr (.inr ⟨[], x, l, rfl, fun y hy => by simp at hy, by simp, hx.1, h⟩)
        · exact .inl ⟨[x], l, rfl, fun y hy => by rw [List.mem_singleton.1 hy]; omega, rfl⟩
    | succ m ih =>
      intro l hb
      match l with
      | [] => exact .inr (.inl ⟨[], rfl, fun x hx => by simp at hx, by simp⟩)
      | x :: l =>
        have hx := hb x (List.mem_cons_self ..)
        unfold Byte at hx
        by_cases h : x < 128
        · exact .inr (.inr ⟨[], x, l, rfl, fun y hy => by simp at hy, by simp, hx.1, h⟩)
        · have hh : ∀ p, High p → High (x :: p) := fun p hp y hy => by
            rcases List.mem_cons.1 hy with rfl | hy
            · omega
            · exact hp y hy
          rcases ih l (fun y hy => hb y (List.mem_cons_of_mem _ hy)) with ⟨p, r, e, hp, hl⟩ | ⟨p, e, hp, hl⟩ | ⟨p, c, r, e, hp, hl, hc⟩
          · exact .inl ⟨x :: p, r, by rw [e]; rfl, hh p hp, by simp [hl]⟩
          · exact .inr (.inl ⟨x :: p, by rw [e], hh p hp, by simp; omega⟩)
          · exact .inr (.inr ⟨x :: p, c, r, by rw [e]; rfl, hh p hp, by simp; omega, hc⟩)
  exact gen 9 l hb
theorem pow9 : (128 : Int) ^ 9 = 9223372036854775808 := by decide
/-- What was taken is a number's groups; the number is below 2^64. -/
theorem tnS_ok (l : List Int) (hb : ∀ x ∈ l, Byte x) (h : (tnS l 0 0).2.2 = 0) :
    ∃ m r, l = m ++ r ∧ Canon m ∧ m.length ≤ 10 ∧ (tnS l 0 0) = (valS m, (m.length : Int), 0) ∧ valS m < 18446744073709551616 := by
  rcases high_split l hb with ⟨p, r, rfl, hp, hl⟩ | ⟨p, rfl, hp, hl⟩ | ⟨p, c, r, rfl, hp, hl, hc⟩
  · rw [tnS_much p r hp hl] at h; simp at h
  · rw [tnS_end l hp hl] at h; simp at h
  · rw [tnS_stop p c r hp hl hc] at h ⊢
    by_cases h1 : p.length = 9 ∧ c > 1
    · rw [if_pos h1] at h; simp at h
    · rw [if_neg h1] at h ⊢
      by_cases h2 : c = 0 ∧ p.length > 0
      · rw [if_pos h2] at h; simp at h
      · rw [if_neg h2]
        refine ⟨p ++ [c], r, by simp, canon_snoc p c hp hc ?_, by simp; omega, by simp, ?_⟩
        · rcases Decidable.em (c = 0) with c0 | c0
          · exact .inr (List.eq_nil_of_length_eq_zero (by omega))
          · exact .inl c0
        · rw [valS_append, valS_one c hc]
          have hv := valS_lt p
          by_cases h9 : p.length = 9
          · have e9 : (128 : Int) ^ p.length = 9223372036854775808 := by rw [h9]; exact pow9
            rw [e9] at hv ⊢
            have : c ≤ 1 := by omega
            omega
          · have h8 : p.length ≤ 8 := by omega
            have hm : (128 : Int) ^ p.length ≤ 72057594037927936 := by
              have : (128 : Nat) ^ p.length ≤ 128 ^ 8 := Nat.pow_le_pow_right (by decide) h8
              have q : ((128 ^ p.length : Nat) : Int) ≤ ((128 ^ 8 : Nat) : Int) := by exact_mod_cast this
              simpa using q
            have hn := valS_nonneg p
            have hm0 : (0 : Int) ≤ 128 ^ p.length := by omega
            have : (128 : Int) ^ p.length * c ≤ 72057594037927936 * 127 := Int.mul_le_mul hm (by omega) hc.1 (by decide)
            omega
/-- A number's groups, whatever is behind them, are taken. -/
theorem tnS_canon (m r : List Int) (h : Canon m) (hv : valS m < 18446744073709551616) : tnS (m ++ r) 0 0 = (valS m, (m.length : Int), 0) := by
  have hlen : m.length ≤ 10 := by
    have := numS_ten (valS m).toNat (by have := valS_nonneg m; omega)
    rwa [canon_val m h] at this
  obtain ⟨p, c, rfl, hp, c0, c1, hc⟩ := canon_parts m h
  rw [List.length_append, List.length_singleton] at hlen
  rw [List.append_assoc, List.cons_append, List.nil_append, tnS_stop p c r hp (by omega) ⟨c0, c1⟩]
  rw [if_neg, if_neg]
  · simp
  · rintro ⟨rfl, h2⟩
    rcases hc with hc | hc
    · exact hc rfl
    · rw [hc] at h2; simp at h2
  · rintro ⟨h1, h2⟩
    rw [valS_append, valS_one c ⟨c0, c1⟩, h1, pow9] at hv
    have := valS_nonneg p
    omega
/-- A beginning of a number's groups, but not all of them, is too short. -/
theorem tnS_short (m q : List Int) (h : Canon m) (hlen : m.length ≤ 10) (s : List Int) (hs : s ≠ []) (e : m = q ++ s) : tnS q 0 0 = (0, 0, 10) := by
  obtain ⟨p, c, rfl, hp, c0, c1, hc⟩ := canon_parts m h
  obtain ⟨s', x, rfl⟩ : ∃ s' x, s = s' ++ [x] := ⟨s.dropLast, s.getLast hs, (List.dropLast_concat_getLast _).symm⟩
  rw [← List.append_assoc] at e
  have e2 := List.append_inj_left' e (by simp)
  have hq : High q := fun y hy => hp y (by rw [e2]; simp [hy])
  refine tnS_end q hq ?_
  rw [List.length_append, e2, List.length_append] at hlen
  simp at hlen
  omega
end Go.Proofs.YtkcpgaplpmbmoaaGreat.Num
