/- A log on a disk, and the document's, walked by hand; Lean checks it. -/
import Derived.Test.YtkcpgaplpmbmoaaGreatPAx10
import Derived.Test.YtkcpgaplpmbmoaaGreatPAx5
import Derived.Test.YtkcpgaplpmbmoaaGreatNum
namespace Go.Proofs.YtkcpgaplpmbmoaaGreat.PA
open Go.RowKit Go.Proofs.YtkcpgaplpmbmoaaGreatW.PrintWords Go.Proofs.YtkcpgaplpmbmoaaGreatW.PrintLast Go.Proofs.YtkcpgaplpmbmoaaGreatW.PrintMore
attribute [local go_sem] max2_int min2_int max_two min_two max_three min_three max_four min_four
set_option linter.unusedVariables false
set_option linter.unusedSimpArgs false

open Go.Proofs.YtkcpgaplpmbmoaaGreat.Num
/-- A number's form. -/
def Nm (n : Int) : ByteArray := strOfNums (numS n.toNat)
theorem nm_bytes (n : Int) : bytesOf (Nm n) = numS n.toNat := bytesOf_nums _ (numS_byte _)
theorem nm_size (n : Int) : (Nm n).size = (numS n.toNat).length := by rw [← size_bytesOf, nm_bytes]
theorem nm_ten (n : Int) (h : 0 ≤ n ∧ n < 18446744073709551616) : 1 ≤ (Nm n).size ∧ (Nm n).size ≤ 10 := by
  rw [nm_size]
  exact ⟨numS_pos _, numS_ten _ (by omega)⟩
theorem number_loop (n : Nat) : ∀ acc : List Int, acc.length + (numS n).length ≤ 1000 → Ev (fun k => pack_Number.l0 k (n : Int) acc) (strOfNums (acc ++ numS n)) := by
  induction n using Nat.strongRecOn with
  | _ n ih =>
    intro acc hl
    have hp := numS_pos n
    by_cases h : n < 128
    · refine Ev.step (f := fun _ => some (strOfNums (acc ++ numS n))) (fun k => ?_) (Ev.now _)
      simp only [pack_Number.l0]
      rw [if_neg (by omega), if_pos (by omega), numS_small h]
      congr 4
      omega
    · have e := numS_big h
      rw [e, List.length_cons] at hl
      have := ih (n / 128) (by omega) (acc ++ [((n % 128 + 128 : Nat) : Int)]) (by rw [List.length_append, List.length_singleton]; omega)
      rw [e]
      rw [List.append_assoc, List.singleton_append] at this
      refine Ev.step (fun k => ?_) this
      simp only [pack_Number.l0]
      rw [if_pos (by omega), if_pos (by omega), or128 _ (by omega)]
      have q1 : (n : Int) / 128 = ((n / 128 : Nat) : Int) := by omega
      have q2 : (n : Int) % 256 % 128 + 128 = ((n % 128 + 128 : Nat) : Int) := by omega
      rw [q1, q2]
theorem number_ev (n : Int) (h : 0 ≤ n ∧ n < 18446744073709551616) : Ev (fun k => pack_Number.f k n) (Nm n) := by
  obtain ⟨m, rfl⟩ := Int.eq_ofNat_of_zero_le h.1
  have := number_loop m [] (by have := numS_ten m (by omega); simp; omega)
  rw [List.nil_append] at this
  exact this
/-- A text's form. -/
def Tx (s : ByteArray) : ByteArray := Nm (s.size : Int) ++ s
theorem size_app (s t : ByteArray) : (s ++ t).size = s.size + t.size := by
  rw [← size_bytesOf, bytesOf_append, List.length_append, size_bytesOf, size_bytesOf]
theorem tx_size (s : ByteArray) (h : s.size ≤ 140737488351232) : (Tx s).size ≤ s.size + 10 := by
  unfold Tx
  have := (nm_ten (s.size : Int) (by omega)).2
  rw [size_app]; omega
theorem text_ev (s : ByteArray) (h : s.size ≤ 140737488351232) : Ev (fun k => pack_Text.f k s) (Tx s) := by
  have hn := nm_ten (s.size : Int) (by omega)
  have hu := uw (s.size : Int) (by omega)
  unfold pack_Text.f
  rw [hu]
  refine Ev.bind (number_ev (s.size : Int) (by omega)) ?_
  refine Ev.congr (f := fun _ => some (Tx s)) (fun k => ?_) (Ev.now _)
  rw [if_pos (by omega)]
  rfl
/-- Texts, one behind the other. -/
def cat : List ByteArray → ByteArray
  | [] => ByteArray.empty
  | s :: l => s ++ cat l
theorem drop_rdOf (l : List ByteArray) (i : Nat) (h : i < l.length) : l.drop i = rdOf ByteArray.empty l (i : Int) :: l.drop (i + 1) := by
  rw [List.drop_eq_getElem_cons h]
  congr 1
  unfold rdOf
  simp [List.getD_eq_getElem?_getD, List.getElem?_eq_getElem h]
theorem app_assoc (a b c : ByteArray) : a ++ b ++ c = a ++ (b ++ c) := bytesOf_inj (by simp only [bytesOf_append, List.append_assoc])
theorem app_empty (a : ByteArray) : a ++ ByteArray.empty = a := bytesOf_inj (by simp only [bytesOf_append, bytesOf_empty, List.append_nil])
theorem rnumber_nat (n : Nat) : n < 18446744073709551616 → Ev (fun k => ententeref01_Number.f k (n : Int)) (strOfNums (numS n)) := by
  induction n using Nat.strongRecOn with
  | _ n ih =>
    intro hn
    by_cases h : n < 128
    · refine Ev.step (f := fun _ => some (strOfNums (numS n))) (fun k => ?_) (Ev.now _)
      simp only [ententeref01_Number.f]
      rw [if_pos (by omega), numS_small h]
      congr 3
      omega
    · have e := numS_big h
      have t1 : Int.tmod (n : Int) 128 = ((n % 128 : Nat) : Int) := by rw [Int.tmod_eq_emod_of_nonneg (by omega)]; omega
      have t2 : Int.tdiv (n : Int) 128 = ((n / 128 : Nat) : Int) := by rw [Int.tdiv_eq_ediv_of_nonneg (by omega)]; omega
      have u1 := uw (((n % 128 : Nat) : Int) + 128) (by omega)
      have u2 := uw (((n / 128 : Nat) : Int)) (by omega)
      have hl := numS_ten (n / 128) (by omega)
      refine Ev.step (f := fun k => (ententeref01_Number.f k ((n / 128 : Nat) : Int)).bind fun t => (if (strOfNums [((n % 128 : Nat) : Int) + 128]).size + t.size ≤ 9223372036854775807 then (some ((strOfNums [((n % 128 : Nat) : Int) + 128]) ++ t)) else (none))) (fun k => ?_) ?_
      · simp only [ententeref01_Number.f]
        rw [if_neg (by omega), t1, t2, u1, u2]
        simp only [Option.bind_some]
        rw [show (((n % 128 : Nat) : Int) + 128) % 256 = ((n % 128 : Nat) : Int) + 128 by omega]
      · refine Ev.bind (ih (n / 128) (by omega) (by omega)) ?_
        refine Ev.congr (f := fun _ => some (strOfNums (numS n))) (fun k => ?_) (Ev.now _)
        rw [if_pos (by rw [strOfNums_size, strOfNums_size]; simp; omega), e, ← Num.nums_append]
        rfl
theorem rnumber_ev (n : Int) (h : 0 ≤ n ∧ n < 18446744073709551616) : Ev (fun k => ententeref01_Number.f k n) (Nm n) := by
  obtain ⟨m, rfl⟩ := Int.eq_ofNat_of_zero_le h.1
  exact rnumber_nat m (by omega)
theorem rtext_ev (s : ByteArray) (h : s.size ≤ 140737488351232) : Ev (fun k => ententeref01_Text.f k s) (Tx s) := by
  have hn := nm_ten (s.size : Int) (by omega)
  have hu := uw (s.size : Int) (by omega)
  unfold ententeref01_Text.f
  rw [hu]
  refine Ev.bind (rnumber_ev (s.size : Int) (by omega)) ?_
  refine Ev.congr (f := fun _ => some (Tx s)) (fun k => ?_) (Ev.now _)
  rw [if_pos (by omega)]
  rfl
/-! The register, as 64 bits. -/
def I64 (x : BitVec 64) : Int := (x.toNat : Int)
def B64 (n : Int) : BitVec 64 := BitVec.ofNat 64 n.toNat
theorem i64_range (x : BitVec 64) : 0 ≤ I64 x ∧ I64 x < 18446744073709551616 := by
  have := x.isLt
  unfold I64
  omega
theorem i64_b64 (n : Int) (h : 0 ≤ n ∧ n < 18446744073709551616) : I64 (B64 n) = n := by
  unfold I64 B64
  rw [BitVec.toNat_ofNat]
  omega
theorem b64_i64 (x : BitVec 64) : B64 (I64 x) = x := by
  unfold I64 B64
  rw [Int.toNat_natCast, BitVec.ofNat_toNat]
  simp
theorem i64_inj {x y : BitVec 64} (h : I64 x = I64 y) : x = y := by rw [← b64_i64 x, h, b64_i64]
theorem ofInt_i64 (x : BitVec 64) : BitVec.ofInt 64 (I64 x) = x := by
  unfold I64
  rw [BitVec.ofInt_natCast, BitVec.ofNat_toNat]
  simp
theorem xor_is (x y : BitVec 64) : Go.bits .xor .u64 (I64 x) (I64 y) = I64 (x ^^^ y) := by
  have h : Go.bits .xor .u64 (I64 x) (I64 y) = IntKind.u64.wrap (((BitVec.ofInt 64 (I64 x) ^^^ BitVec.ofInt 64 (I64 y)).toNat : Nat) : Int) := rfl
  rw [h, ofInt_i64, ofInt_i64]
  exact uw _ (i64_range _)
theorem and_is (x y : BitVec 64) : Go.bits .and .u64 (I64 x) (I64 y) = I64 (x &&& y) := by
  have h : Go.bits .and .u64 (I64 x) (I64 y) = IntKind.u64.wrap (((BitVec.ofInt 64 (I64 x) &&& BitVec.ofInt 64 (I64 y)).toNat : Nat) : Int) := rfl
  rw [h, ofInt_i64, ofInt_i64]
  exact uw _ (i64_range _)
theorem div16_is (x : BitVec 64) : I64 x / (16 : Int) = I64 (x >>> (4 : Nat)) := by
  unfold I64
  rw [BitVec.toNat_ushiftRight, Nat.shiftRight_eq_div_pow]
  omega
theorem div2_is (x : BitVec 64) : I64 x / (2 : Int) = I64 (x >>> (1 : Nat)) := by
  unfold I64
  rw [BitVec.toNat_ushiftRight, Nat.shiftRight_eq_div_pow]
  omega
/-- The polynomial. -/
def poly : BitVec 64 := 14514072000185962306#64
/-- One bit's step. -/
def st (x : BitVec 64) : BitVec 64 := (x >>> 1) ^^^ (if x.getLsbD 0 = true then poly else 0#64)
theorem st_xor (x y : BitVec 64) : st (x ^^^ y) = st x ^^^ st y := by
  unfold st
  rw [BitVec.ushiftRight_xor_distrib, BitVec.getLsbD_xor]
  cases x.getLsbD 0 <;> cases y.getLsbD 0 <;> simp
  · rw [BitVec.xor_assoc]
  · rw [BitVec.xor_assoc, BitVec.xor_assoc, BitVec.xor_comm (y >>> 1) poly]
  · rw [BitVec.xor_assoc (x >>> 1), BitVec.xor_comm poly, BitVec.xor_assoc (y >>> 1), BitVec.xor_self, BitVec.xor_zero]
def stn : Nat → BitVec 64 → BitVec 64
  | 0, x => x
  | n + 1, x => st (stn n x)
theorem stn_xor (n : Nat) (x y : BitVec 64) : stn n (x ^^^ y) = stn n x ^^^ stn n y := by
  induction n with
  | zero => rfl
  | succ n ih => rw [stn, ih, st_xor]; rfl
theorem stn_add (m n : Nat) (x : BitVec 64) : stn m (stn n x) = stn (m + n) x := by
  induction m with
  | zero => rw [Nat.zero_add]; rfl
  | succ m ih => rw [show m + 1 + n = (m + n) + 1 by omega, stn, ih]; rfl
theorem st_even (x : BitVec 64) (h : x.getLsbD 0 = false) : st x = x >>> 1 := by
  unfold st
  rw [h]
  simp
theorem stn_shift (n : Nat) (x : BitVec 64) (h : ∀ i, i < n → x.getLsbD i = false) : stn n x = x >>> n := by
  induction n with
  | zero => simp [stn]
  | succ n ih =>
    rw [stn, ih (fun i hi => h i (by omega)), st_even]
    · rw [BitVec.shiftRight_add]
    · rw [BitVec.getLsbD_ushiftRight, Nat.add_zero]
      exact h n (by omega)
theorem low_high (x : BitVec 64) : x = (x &&& 15#64) ^^^ (x &&& ~~~15#64) := by
  ext i hi
  simp only [BitVec.getElem_xor, BitVec.getElem_and, BitVec.getElem_not]
  cases x[i] <;> cases (15#64)[i] <;> rfl
theorem high_low (x : BitVec 64) : ∀ i, i < 4 → (x &&& ~~~15#64).getLsbD i = false := by
  intro i hi
  have : (~~~15#64).getLsbD i = false := by
    match i with
    | 0 | 1 | 2 | 3 => decide
    | i + 4 => omega
  rw [BitVec.getLsbD_and, this, Bool.and_false]
theorem high_shift (x : BitVec 64) : (x &&& ~~~15#64) >>> 4 = x >>> 4 := by
  rw [BitVec.ushiftRight_and_distrib]
  have : ((~~~15#64) >>> 4 : BitVec 64) = 1152921504606846975#64 := by decide
  rw [this]
  apply BitVec.eq_of_toNat_eq
  rw [BitVec.toNat_and, BitVec.toNat_ushiftRight, Nat.shiftRight_eq_div_pow]
  have h := x.isLt
  have e : (1152921504606846975#64).toNat = 2 ^ 60 - 1 := by decide
  rw [e, Nat.and_two_pow_sub_one_eq_mod, Nat.mod_eq_of_lt (by omega)]
theorem tab_is : ∀ n : Fin 16, rd seal_tab (n.val : Int) = I64 (stn 4 (BitVec.ofNat 64 n.val)) := by decide +kernel
theorem half_is (x : BitVec 64) : seal_half (I64 x) = I64 (stn 4 x) := by
  unfold seal_half
  have e15 : (15 : Int) = I64 15#64 := rfl
  rw [e15, and_is, div16_is]
  have hlt : (x &&& 15#64).toNat < 16 := by
    rw [BitVec.toNat_and]
    have : x.toNat &&& (15#64).toNat ≤ (15#64).toNat := Nat.and_le_right
    have e : (15#64).toNat = 15 := by decide
    omega
  have h := tab_is ⟨(x &&& 15#64).toNat, hlt⟩
  have h2 : BitVec.ofNat 64 (x &&& 15#64).toNat = x &&& 15#64 := by rw [BitVec.ofNat_toNat]; simp
  rw [h2] at h
  rw [show rd seal_tab (I64 (x &&& 15#64)) = I64 (stn 4 (x &&& 15#64)) from h]
  rw [xor_is]
  congr 1
  conv => rhs; rw [low_high x]
  rw [stn_xor, stn_shift 4 _ (high_low x), high_shift, BitVec.xor_comm]
/-- One byte. -/
def inB (r : BitVec 64) (c : Int) : BitVec 64 := stn 8 (r ^^^ B64 c)
def crc (r : BitVec 64) (l : List Int) : BitVec 64 := l.foldl inB r
/-- The sum of bytes. -/
def sumS (l : List Int) : Int := I64 (~~~ crc (BitVec.allOnes 64) l)
theorem max_is : Go.IntKind.u64.max = I64 (BitVec.allOnes 64) := by decide
theorem not_is (x : BitVec 64) : Go.bits .xor .u64 Go.IntKind.u64.max (I64 x) = I64 (~~~ x) := by
  rw [max_is, xor_is, BitVec.allOnes_xor]
theorem byte_is (x : BitVec 64) (c : Int) (hc : 0 ≤ c ∧ c ≤ 255) : seal_half (seal_half (Go.bits .xor .u64 (I64 x) (IntKind.u64.wrap c))) = I64 (inB x c) := by
  have e : c = I64 (B64 c) := (i64_b64 c (by omega)).symm
  rw [uw c (by omega)]
  conv => lhs; rw [e]
  rw [xor_is, half_is, half_is, stn_add]
  rfl
theorem inner_loop (l : List ByteArray) (s : ByteArray) (hs : s.size ≤ 140737488351232) (i : Int) (res : Int) (d : Nat) : ∀ (j : Nat) (x : BitVec 64), j + d = s.size →
    Ev (fun k => seal_Sum.l0 k l (I64 (crc x ((bytesOf s).drop j))) (wrap64 (i + 1))) res → Ev (fun k => seal_Sum.l1 k l s (I64 x) i (j : Int)) res := by
  induction d with
  | zero =>
    intro j x hj h
    rw [List.drop_eq_nil_of_le (by rw [bytesOf_length]; omega)] at h
    refine Ev.step (fun k => ?_) h
    rw [seal_Sum.l1, if_neg (by omega)]
    rfl
  | succ d ih =>
    intro j x hj h
    have hd : (bytesOf s).drop j = bt s (j : Int) :: (bytesOf s).drop (j + 1) := by
      rw [List.drop_eq_getElem_cons (by rw [bytesOf_length]; omega), bt_nat s j (by omega)]
    rw [hd] at h
    refine Ev.step (fun k => ?_) (ih (j + 1) (inB x (bt s (j : Int))) (by omega) h)
    rw [seal_Sum.l1, if_pos (by omega), if_pos (by omega), byte_is x _ (bt_range s _), wr _ (by omega)]
    rfl
theorem sum_loop (l : List ByteArray) (hr : ∀ s ∈ l, s.size ≤ 140737488351232) (hl : l.length ≤ 140737488351232) (d : Nat) : ∀ (i : Nat) (x : BitVec 64), i + d = l.length →
    Ev (fun k => seal_Sum.l0 k l (I64 x) (i : Int)) (I64 (~~~ crc x (bytesOf (cat (l.drop i))))) := by
  induction d with
  | zero =>
    intro i x hi
    refine Ev.step (f := fun _ => some (I64 (~~~ crc x (bytesOf (cat (l.drop i)))))) (fun k => ?_) (Ev.now _)
    rw [seal_Sum.l0, if_neg (by omega), not_is, List.drop_eq_nil_of_le (by omega), cat, bytesOf_empty]
    rfl
  | succ d ih =>
    intro i x hi
    have hd := drop_rdOf l i (by omega)
    have hm : rdOf ByteArray.empty l (i : Int) ∈ l := List.mem_of_mem_drop (by rw [hd]; exact List.mem_cons_self ..)
    refine Ev.step (fun k => by rw [seal_Sum.l0, if_pos (by omega), if_pos (by omega)]) ?_
    refine inner_loop l (rdOf ByteArray.empty l (i : Int)) (hr _ hm) (i : Int) _ (rdOf ByteArray.empty l (i : Int)).size 0 x (by omega) ?_
    rw [List.drop_zero, hd, cat, bytesOf_append, wr _ (by omega)]
    have := ih (i + 1) (crc x (bytesOf (rdOf ByteArray.empty l (i : Int)))) (by omega)
    rw [show crc x (bytesOf (rdOf ByteArray.empty l (i : Int)) ++ bytesOf (cat (l.drop (i + 1)))) = crc (crc x (bytesOf (rdOf ByteArray.empty l (i : Int)))) (bytesOf (cat (l.drop (i + 1)))) from List.foldl_append]
    exact this
theorem sum_ev (l : List ByteArray) (hr : ∀ s ∈ l, s.size ≤ 140737488351232) (hl : l.length ≤ 140737488351232) : Ev (fun k => seal_Sum.f k l) (sumS (bytesOf (cat l))) := by
  have := sum_loop l hr hl l.length 0 (BitVec.allOnes 64) (by omega)
  rw [List.drop_zero] at this
  exact this
/-! The document's sum, bit by bit. -/
def bitN (c : Int) (b : Nat) : BitVec 64 := BitVec.ofNat 64 (c.toNat / 2 ^ b % 2)
def lowN (c : Int) (b : Nat) : BitVec 64 := BitVec.ofNat 64 (c.toNat % 2 ^ b)
theorem bits_table : ∀ (c : Fin 256) (b : Fin 8), (lowN (c.val : Int) b.val) ^^^ (bitN (c.val : Int) b.val <<< b.val) = lowN (c.val : Int) (b.val + 1) ∧ stn b.val (bitN (c.val : Int) b.val <<< b.val) = bitN (c.val : Int) b.val := by decide +kernel
theorem bits_step (c : Int) (hc : 0 ≤ c ∧ c ≤ 255) (b : Nat) (hb : b < 8) : lowN c b ^^^ (bitN c b <<< b) = lowN c (b + 1) ∧ stn b (bitN c b <<< b) = bitN c b := by
  obtain ⟨n, rfl⟩ := Int.eq_ofNat_of_zero_le hc.1
  exact bits_table ⟨n, by omega⟩ ⟨b, hb⟩
theorem feed_step (r : BitVec 64) (c : Int) (hc : 0 ≤ c ∧ c ≤ 255) (b : Nat) (hb : b < 8) : st (stn b (r ^^^ lowN c b) ^^^ bitN c b) = stn (b + 1) (r ^^^ lowN c (b + 1)) := by
  obtain ⟨h1, h2⟩ := bits_step c hc b hb
  rw [stn, ← h1, ← BitVec.xor_assoc, stn_xor b (r ^^^ lowN c b), h2]
theorem st_bit (x : BitVec 64) (b : Nat) (hb : b < 2) : st (x ^^^ BitVec.ofNat 64 b) = if x.toNat % 2 = b then x >>> 1 else (x >>> 1) ^^^ poly := by
  have hx : x.getLsbD 0 = decide (x.toNat % 2 = 1) := by
    rw [BitVec.getLsbD, Nat.testBit_zero]
  have hs : st x = if x.toNat % 2 = 1 then (x >>> 1) ^^^ poly else x >>> 1 := by
    unfold st
    rw [hx]
    by_cases g : x.toNat % 2 = 1
    · simp [g]
    · simp [g]
  rcases (show b = 0 ∨ b = 1 by omega) with rfl | rfl
  · rw [show x ^^^ BitVec.ofNat 64 0 = x by simp, hs]
    by_cases g : x.toNat % 2 = 1
    · rw [if_pos g, if_neg (by omega)]
    · rw [if_neg g, if_pos (by omega)]
  · rw [st_xor, hs, show st (BitVec.ofNat 64 1) = poly by decide]
    by_cases g : x.toNat % 2 = 1
    · rw [if_pos g, if_pos g, BitVec.xor_assoc, BitVec.xor_self, BitVec.xor_zero]
    · rw [if_neg g, if_neg g]
theorem rbits_loop (s : ByteArray) (hs : s.size ≤ 140737488351232) (i : Nat) (hi : i < s.size) (r : BitVec 64) (res : Int)
    (h : Ev (fun k => ententeref02_Sum.l0 k s (I64 (inB r (bt s (i : Int)))) (wrap64 ((i : Int) + 1))) res) (d : Nat) : ∀ b : Nat, b + d = 8 →
    Ev (fun k => ententeref02_Sum.l1 k s (I64 (stn b (r ^^^ lowN (bt s (i : Int)) b))) (i : Int) (b : Int)) res := by
  have hc := bt_range s (i : Int)
  induction d with
  | zero =>
    intro b hb
    obtain rfl : b = 8 := by omega
    have e : lowN (bt s (i : Int)) 8 = B64 (bt s (i : Int)) := by
      unfold lowN B64
      rw [Nat.mod_eq_of_lt (by omega)]
    rw [e]
    refine Ev.step (fun k => ?_) h
    rw [ententeref02_Sum.l1, if_neg (by omega)]
    rfl
  | succ d ih =>
    intro b hb
    have := ih (b + 1) (by omega)
    rw [← feed_step r _ hc b (by omega)] at this
    refine Ev.step (fun k => ?_) this
    have hshr : IntKind.u64.wrap (shr .u8 (bt s (i : Int)) (b : Int)) = ((bt s (i : Int)).toNat / 2 ^ b : Nat) := by
      have h1 : shr .u8 (bt s (i : Int)) (b : Int) = bt s (i : Int) / 2 ^ b := by
        unfold shr
        rw [Int.toNat_natCast, Nat.min_eq_left (by simp [IntKind.bits]; omega)]
      have h2 : bt s (i : Int) / 2 ^ b = ((bt s (i : Int)).toNat / 2 ^ b : Nat) := by
        have : (((bt s (i : Int)).toNat : Nat) : Int) = bt s (i : Int) := Int.toNat_of_nonneg hc.1
        conv => lhs; rw [← this]
        norm_cast
      rw [h1, h2]
      refine uw _ ⟨Int.natCast_nonneg _, ?_⟩
      have h3 : (((bt s (i : Int)).toNat / 2 ^ b : Nat) : Int) ≤ ((bt s (i : Int)).toNat : Int) := Int.ofNat_le.2 (Nat.div_le_self _ _)
      omega
    generalize hX : stn b (r ^^^ lowN (bt s (i : Int)) b) = X
    have hx := i64_range X
    have t1 : Int.tmod (I64 X) 2 = ((X.toNat % 2 : Nat) : Int) := by
      rw [Int.tmod_eq_emod_of_nonneg hx.1]
      unfold I64
      omega
    have t2 : ∀ n : Nat, Int.tmod (n : Int) 2 = ((n % 2 : Nat) : Int) := by
      intro n
      rw [Int.tmod_eq_emod_of_nonneg (by omega)]
      omega
    have t3 : IntKind.u64.wrap (Int.tdiv (I64 X) 2) = I64 (X >>> 1) := by
      rw [Int.tdiv_eq_ediv_of_nonneg hx.1, div2_is]
      exact uw _ (i64_range _)
    have hb2 : (bt s (i : Int)).toNat / 2 ^ b % 2 < 2 := Nat.mod_lt _ (by decide)
    have hst := st_bit X _ hb2
    rw [ententeref02_Sum.l1, if_pos (by omega), if_pos (by omega), if_pos (by omega), if_pos (by omega), hshr, t1, t2, t3, wr ((b : Int) + 1) (by omega)]
    show _ = ententeref02_Sum.l1 k s (I64 (st (X ^^^ BitVec.ofNat 64 ((bt s (i : Int)).toNat / 2 ^ b % 2)))) (i : Int) ((b + 1 : Nat) : Int)
    rw [hst]
    by_cases g : X.toNat % 2 = (bt s (i : Int)).toNat / 2 ^ b % 2
    · rw [if_pos (by rw [g]), if_pos g]
      rfl
    · rw [if_neg (fun h => g (by exact_mod_cast h)), if_neg g]
      have e : (14514072000185962306 : Int) = I64 poly := by decide
      rw [e, xor_is]
      rfl
theorem rsum_loop (s : ByteArray) (hs : s.size ≤ 140737488351232) (d : Nat) : ∀ (i : Nat) (r : BitVec 64), i + d = s.size →
    Ev (fun k => ententeref02_Sum.l0 k s (I64 r) (i : Int)) (I64 (~~~ crc r ((bytesOf s).drop i))) := by
  induction d with
  | zero =>
    intro i r hi
    refine Ev.step (f := fun _ => some (I64 (~~~ crc r ((bytesOf s).drop i)))) (fun k => ?_) (Ev.now _)
    rw [ententeref02_Sum.l0, if_neg (by omega), List.drop_eq_nil_of_le (by rw [bytesOf_length]; omega)]
    have hr := r.isLt
    show some (IntKind.u64.wrap (18446744073709551615 - I64 r)) = some (I64 (~~~ r))
    rw [uw _ (by unfold I64; omega)]
    unfold I64
    rw [BitVec.toNat_not]
    congr 1
    omega
  | succ d ih =>
    intro i r hi
    have hd : (bytesOf s).drop i = bt s (i : Int) :: (bytesOf s).drop (i + 1) := by
      rw [List.drop_eq_getElem_cons (by rw [bytesOf_length]; omega), bt_nat s i (by omega)]
    rw [hd]
    refine Ev.step (fun k => by rw [ententeref02_Sum.l0, if_pos (by omega)]) ?_
    have := ih (i + 1) (inB r (bt s (i : Int))) (by omega)
    have e0 : stn 0 (r ^^^ lowN (bt s (i : Int)) 0) = r := by
      show r ^^^ lowN (bt s (i : Int)) 0 = r
      unfold lowN
      rw [Nat.pow_zero, Nat.mod_one]
      simp
    have h := rbits_loop s hs i (by omega) r _ (by rw [wr _ (by omega)]; exact this) 8 0 (by omega)
    rw [e0] at h
    exact h
theorem rsum_ev (s : ByteArray) (hs : s.size ≤ 140737488351232) : Ev (fun k => ententeref02_Sum.f k s) (sumS (bytesOf s)) := by
  have := rsum_loop s hs s.size 0 (BitVec.allOnes 64) (by omega)
  rw [List.drop_zero] at this
  exact this
/-- What is taken at a place: the number, the place behind, the error. -/
def TN (s : ByteArray) (at_ : Int) : Int × Int × Int :=
  if at_ < 0 ∨ at_ > (s.size : Int) then (0, 0, 2) else
    ((tnS ((bytesOf s).drop at_.toNat) 0 0).1, (if (tnS ((bytesOf s).drop at_.toNat) 0 0).2.2 = 0 then at_ + (tnS ((bytesOf s).drop at_.toNat) 0 0).2.1 else 0), (tnS ((bytesOf s).drop at_.toNat) 0 0).2.2)
def rel (a : Int) (r : Int × Int × Int) : Int × Int × Int := (r.1, (if r.2.2 = 0 then a + r.2.1 else 0), r.2.2)
theorem rel_err (a e : Int) (h : e ≠ 0) : rel a (0, 0, e) = (0, 0, e) := by unfold rel; rw [if_neg h]
theorem rel_ok (a n c : Int) : rel a (n, c, 0) = (n, a + c, 0) := by unfold rel; rw [if_pos rfl]
theorem tnS_nil (i : Nat) (n : Int) : tnS [] i n = if i < 10 then (0, 0, 10) else (0, 0, 11) := rfl
theorem tnS_cons (c : Int) (l : List Int) (i : Nat) (n : Int) : tnS (c :: l) i n = if 10 ≤ i then (0, 0, 11) else if i = 9 ∧ c > 1 then (0, 0, 11) else if c ≥ 128 then tnS l (i + 1) (n + c % 128 * 128 ^ i) else if c = 0 ∧ i > 0 then (0, 0, 11) else (n + c * 128 ^ i, i + 1, 0) := rfl
theorem pow7 (i : Nat) : (2 : Int) ^ (7 * i) = 128 ^ i := by rw [Int.pow_mul]; rfl
theorem pow7n (i : Nat) : (2 : Nat) ^ (7 * i) = 128 ^ i := by rw [Nat.pow_mul]
theorem pow_le (i : Nat) (h : i ≤ 9) : (128 : Nat) ^ i ≤ 9223372036854775808 := by
  have := Nat.pow_le_pow_right (show 0 < 128 by decide) h
  have e : (128 : Nat) ^ 9 = 9223372036854775808 := by decide
  omega
/-- Seven bits more. -/
theorem or_more (n c : Int) (i : Nat) (hi : i ≤ 9) (hn : 0 ≤ n ∧ n < 128 ^ i) (hc : 0 ≤ c ∧ c < 256) (h9 : i = 9 → c ≤ 1) :
    Go.bits .or .u64 n (shl .u64 (IntKind.u64.wrap (Go.bits .and .u8 c 127)) (IntKind.u64.wrap (wrap64 (7 * (i : Int))))) = n + c % 128 * 128 ^ i := by
  rw [and127 c hc, uw (c % 128) (by omega), wr (7 * (i : Int)) (by omega), uw (7 * (i : Int)) (by omega)]
  unfold shl
  have e1 : min (7 * (i : Int)).toNat IntKind.u64.bits = 7 * i := by simp [IntKind.bits]; omega
  rw [e1, pow7]
  obtain ⟨m, rfl⟩ := Int.eq_ofNat_of_zero_le hn.1
  obtain ⟨d, hd⟩ := Int.eq_ofNat_of_zero_le (show 0 ≤ c % 128 by omega)
  rw [hd]
  have hp := pow_le i hi
  have hm : m < 128 ^ i := by
    have := hn.2
    have q : ((128 ^ i : Nat) : Int) = (128 : Int) ^ i := by simp
    omega
  have hq : ((d * 128 ^ i : Nat) : Int) = (d : Int) * 128 ^ i := by simp
  have hy : d * 128 ^ i < 18446744073709551616 := by
    by_cases h : i = 9
    · have := h9 h
      have hd1 : d ≤ 1 := by omega
      have : d * 128 ^ i ≤ 1 * 128 ^ i := Nat.mul_le_mul_right _ hd1
      omega
    · have h8 : (128 : Nat) ^ i ≤ 128 ^ 8 := Nat.pow_le_pow_right (by decide) (by omega)
      have e8 : (128 : Nat) ^ 8 = 72057594037927936 := by decide
      have : d * 128 ^ i ≤ 127 * 72057594037927936 := Nat.mul_le_mul (by omega) (by omega)
      omega
  rw [← hq, uw _ (by omega)]
  exact or_join m (d * 128 ^ i) (7 * i) (by rw [pow7n]; exact hm) (by rw [pow7n]; exact Nat.mul_mod_left _ _) (by omega) (by omega)
theorem rd_drop_bt (s : ByteArray) (a : Nat) (h : a < s.size) : (bytesOf s).drop a = bt s (a : Int) :: (bytesOf s).drop (a + 1) := by
  rw [drop_cons _ a (by rw [bytesOf_length]; exact h), rd_bytesOf]
theorem take_loop (s : ByteArray) (hs : s.size ≤ 140737488351232) (a d : Nat) : ∀ (i : Nat) (n : Int), i + d = 10 → a + i ≤ s.size → 0 ≤ n → n < 128 ^ i →
    Ev (fun k => pack_TakeNumber.l0 k s (a : Int) n (i : Int)) (rel (a : Int) (tnS ((bytesOf s).drop (a + i)) i n)) := by
  induction d with
  | zero =>
    intro i n hi ha h0 h1
    refine Ev.step (f := fun _ => some (0, 0, 11)) (fun k => ?_) ?_
    · simp only [pack_TakeNumber.l0]
      rw [if_neg (by omega)]
    · have : rel (a : Int) (tnS ((bytesOf s).drop (a + i)) i n) = (0, 0, 11) := by
        cases (bytesOf s).drop (a + i) with
        | nil => rw [tnS_nil, if_neg (by omega), rel_err _ _ (by decide)]
        | cons c l => rw [tnS_cons, if_pos (by omega), rel_err _ _ (by decide)]
      rw [this]
      exact Ev.now _
  | succ d ih =>
    intro i n hi ha h0 h1
    have w1 : wrap64 ((a : Int) + (i : Int)) = ((a + i : Nat) : Int) := by unfold wrap64; omega
    have w2 : wrap64 ((i : Int) + 1) = ((i + 1 : Nat) : Int) := by unfold wrap64; omega
    have hz : IntKind.u64.wrap (wrap64 (7 * (i : Int))) = 7 * (i : Int) := by rw [wr _ (by omega), uw _ (by omega)]
    by_cases c0 : a + i = s.size
    · refine Ev.step (f := fun _ => some (0, 0, 10)) (fun k => ?_) ?_
      · simp only [pack_TakeNumber.l0]
        rw [if_pos (by omega), w1, if_pos (by omega)]
      · rw [List.drop_eq_nil_of_le (by rw [bytesOf_length]; omega)]
        rw [tnS_nil, if_pos (by omega), rel_err _ _ (by decide)]
        exact Ev.now _
    · have hb := bt_range s ((a + i : Nat) : Int)
      rw [rd_drop_bt s (a + i) (by omega)]
      obtain ⟨c, hc⟩ : ∃ c, bt s ((a + i : Nat) : Int) = c := ⟨_, rfl⟩
      rw [hc] at hb ⊢
      have head : ∀ k, pack_TakeNumber.l0 (k + 1) s (a : Int) n (i : Int) = pack_TakeNumber.j2 k s (a : Int) n (i : Int) c (i : Int) (decide (i = 9 ∧ c > 1)) := fun k => by
        simp only [pack_TakeNumber.l0]
        rw [if_pos (by omega), w1, if_neg (by omega), if_pos (by omega), if_pos (by omega), hc]
        by_cases h9 : i = 9
        · rw [if_pos (by omega)]
          congr 1
          simp [h9]
        · rw [if_neg (by omega)]
          congr 1
          simp [h9]
      by_cases c1 : i = 9 ∧ c > 1
      · refine ev_shift 2 (f := fun _ => some (0, 0, 11)) (fun k => ?_) ?_
        · rw [head, decide_eq_true c1, pack_TakeNumber.j2, if_pos rfl]
        · rw [tnS_cons, if_neg (by omega), if_pos c1, rel_err _ _ (by decide)]
          exact Ev.now _
      · have hm := or_more n c i (by omega) ⟨h0, h1⟩ ⟨hb.1, by omega⟩ (fun h => by omega)
        by_cases c2 : c ≥ 128
        · have hlt : n + c % 128 * 128 ^ i < 128 ^ (i + 1) := by
            have p0 : (0 : Int) ≤ 128 ^ i := by omega
            have : c % 128 * 128 ^ i ≤ 127 * 128 ^ i := Int.mul_le_mul_of_nonneg_right (by omega) p0
            rw [Int.pow_succ]
            omega
          have hge : 0 ≤ n + c % 128 * 128 ^ i := by
            have p0 : (0 : Int) ≤ 128 ^ i := by omega
            have : 0 ≤ c % 128 * 128 ^ i := Int.mul_nonneg (by omega) p0
            omega
          have := ih (i + 1) (n + c % 128 * 128 ^ i) (by omega) (by omega) hge hlt
          rw [tnS_cons, if_neg (by omega), if_neg c1, if_pos c2]
          refine ev_shift 2 (fun k => ?_) this
          rw [head, decide_eq_false c1, pack_TakeNumber.j2, if_neg (by simp), hz, if_pos (by omega), if_pos c2, ← hz, hm, w2]
        · have h128 : c % 128 = c := by omega
          rw [h128] at hm
          rw [tnS_cons, if_neg (by omega), if_neg c1, if_neg c2]
          by_cases c3 : c = 0 ∧ i > 0
          · rw [if_pos c3, rel_err _ _ (by decide)]
            refine ev_shift 2 (f := fun _ => some (0, 0, 11)) (fun k => ?_) (Ev.now _)
            rw [head, decide_eq_false c1, pack_TakeNumber.j2, if_neg (by simp), hz, if_pos (by omega), if_neg c2, if_pos c3.1, if_pos (by omega)]
          · rw [if_neg c3, rel_ok]
            have w3 : wrap64 ((wrap64 ((a : Int) + (i : Int))) + 1) = (a : Int) + ((i : Int) + 1) := by rw [w1]; unfold wrap64; omega
            refine ev_shift 2 (f := fun _ => some (n + c * 128 ^ i, (a : Int) + ((i : Int) + 1), 0)) (fun k => ?_) ?_
            · rw [head, decide_eq_false c1, pack_TakeNumber.j2, if_neg (by simp), if_pos (by rw [hz]; omega), if_neg c2, hm, w3]
              by_cases c4 : c = 0
              · rw [if_pos c4, if_neg (by omega)]
              · rw [if_neg c4]
            · exact Ev.now _
theorem take_ev (s : ByteArray) (hs : s.size ≤ 140737488351232) (a : Int) : Ev (fun k => pack_TakeNumber.f k s a) (TN s a) := by
  have bad : Ev (fun k => pack_TakeNumber.j0 k s a true) (0, 0, 2) := Ev.step (f := fun _ => some (0, 0, 2)) (fun k => by simp only [pack_TakeNumber.j0, if_true]) (Ev.now _)
  by_cases c1 : a < 0
  · have : TN s a = (0, 0, 2) := if_pos (.inl c1)
    rw [this]
    exact Ev.congr (fun k => by unfold pack_TakeNumber.f; rw [if_pos c1]) bad
  by_cases c2 : a > (s.size : Int)
  · have : TN s a = (0, 0, 2) := if_pos (.inr c2)
    rw [this]
    exact Ev.congr (fun k => by unfold pack_TakeNumber.f; rw [if_neg c1, decide_eq_true c2]) bad
  obtain ⟨m, rfl⟩ := Int.eq_ofNat_of_zero_le (show 0 ≤ a by omega)
  have : TN s (m : Int) = rel (m : Int) (tnS ((bytesOf s).drop (m + 0)) 0 0) := if_neg (by omega)
  rw [this]
  refine Ev.congr (f := fun k => pack_TakeNumber.j0 k s (m : Int) false) (fun k => by unfold pack_TakeNumber.f; rw [if_neg c1, decide_eq_false c2]) ?_
  refine Ev.step (fun k => ?_) (take_loop s hs m 10 0 0 (by omega) (by omega) (by omega) (by decide))
  simp only [pack_TakeNumber.j0, Bool.false_eq_true, if_false]
  rfl
theorem tn_facts (s : ByteArray) (hs : s.size ≤ 140737488351232) (a : Int) : (TN s a).2.2 ≠ 0 ∧ (TN s a).1 = 0 ∧ (TN s a).2.1 = 0 ∨ (TN s a).2.2 = 0 ∧ 0 ≤ (TN s a).1 ∧ (TN s a).1 < 18446744073709551616 ∧ 0 ≤ a ∧ a < (TN s a).2.1 ∧ (TN s a).2.1 ≤ (s.size : Int) := by
  by_cases c : a < 0 ∨ a > (s.size : Int)
  · have : TN s a = (0, 0, 2) := if_pos c
    rw [this]; left; simp
  · have e : TN s a = rel a (tnS ((bytesOf s).drop a.toNat) 0 0) := if_neg c
    rw [e]
    rcases tnS_err ((bytesOf s).drop a.toNat) 0 0 with h | ⟨h1, h2, h3⟩
    · right
      obtain ⟨m, r, h4, h5, h6, h7, h8⟩ := tnS_ok _ (fun x hx => bytesOf_byte s x (List.mem_of_mem_drop hx)) h
      rw [h7]
      have hl := congrArg List.length h4
      rw [List.length_drop, bytesOf_length, List.length_append] at hl
      have hp : 1 ≤ m.length := by
        match m, h5 with
        | [], h5 => exact absurd h5 (by simp [Canon])
        | x :: m, _ => simp
      have hv := valS_nonneg m
      rw [rel_ok]
      exact ⟨rfl, hv, h8, by show 0 ≤ a; omega, by show a < a + (m.length : Int); omega, by show a + (m.length : Int) ≤ _; omega⟩
    · left
      have h4 : (tnS ((bytesOf s).drop a.toNat) 0 0).2.2 ≠ 0 := by omega
      exact ⟨h4, h1, if_neg h4⟩
/-- How far value goes. -/
theorem valS_drop_le (l : List Int) (j : Nat) : valS (l.drop j) ≤ valS l := by
  induction j generalizing l with
  | zero => simp
  | succ j ih =>
    match l with
    | [] => simp
    | x :: l =>
      simp only [List.drop_succ_cons, valS]
      have := ih l
      have := valS_nonneg l
      omega
theorem value_loop (s : ByteArray) (hs : s.size ≤ 1000) (i : Nat) : i < s.size →
    Ev (fun k => ententeref01_value.l0 k s (valS ((bytesOf s).drop (i + 1))) (i : Int)) (if valS ((bytesOf s).drop 1) ≤ 144115188075855871 then (valS (bytesOf s), true) else (0, false)) := by
  induction i with
  | zero =>
    intro hi
    show Ev (fun k => ententeref01_value.l0 k s (valS ((bytesOf s).drop 1)) 0) _
    have hv := valS_nonneg ((bytesOf s).drop 1)
    by_cases c : valS ((bytesOf s).drop 1) ≤ 144115188075855871
    · rw [if_pos c]
      have hb := bt_range s 0
      have e0 := rd_drop_bt s 0 hi
      rw [List.drop_zero] at e0
      have ev : valS (bytesOf s) = bt s 0 % 128 + 128 * valS ((bytesOf s).drop 1) := by
        conv => lhs; rw [e0]
        rfl
      refine ev_shift 2 (f := fun _ => some (valS (bytesOf s), true)) (fun k => ?_) (Ev.now _)
      rw [ententeref01_value.l0, if_pos (by omega), if_neg (by omega), if_pos (by omega), if_pos (by omega)]
      have t1 : Int.tmod (bt s 0) 128 = bt s 0 % 128 := Int.tmod_eq_emod_of_nonneg hb.1
      rw [t1, uw (128 * valS ((bytesOf s).drop 1)) (by omega), uw (bt s 0 % 128) (by omega), uw _ (by omega), wr ((0 : Int) - 1) (by omega), ententeref01_value.l0, if_neg (by omega), ev]
      congr 2
      omega
    · rw [if_neg c]
      refine Ev.step (f := fun _ => some (0, false)) (fun k => ?_) (Ev.now _)
      rw [ententeref01_value.l0, if_pos (by omega), if_pos (by omega)]
  | succ i ih =>
    intro hi
    have hv := valS_nonneg ((bytesOf s).drop (i + 1 + 1))
    by_cases c : valS ((bytesOf s).drop (i + 1 + 1)) > 144115188075855871
    · have h1 := valS_drop_le ((bytesOf s).drop 1) (i + 1)
      rw [List.drop_drop, show 1 + (i + 1) = i + 1 + 1 by omega] at h1
      rw [if_neg (by omega)]
      refine Ev.step (f := fun _ => some (0, false)) (fun k => ?_) (Ev.now _)
      rw [ententeref01_value.l0, if_pos (by omega), if_pos c]
    · have hb := bt_range s ((i + 1 : Nat) : Int)
      have e0 := rd_drop_bt s (i + 1) hi
      have ev : valS ((bytesOf s).drop (i + 1)) = bt s ((i + 1 : Nat) : Int) % 128 + 128 * valS ((bytesOf s).drop (i + 1 + 1)) := by
        rw [e0]; rfl
      refine Ev.step (fun k => ?_) (ih (by omega))
      rw [ententeref01_value.l0, if_pos (by omega), if_neg c, if_pos (by omega), if_pos (by omega)]
      have t1 : Int.tmod (bt s ((i + 1 : Nat) : Int)) 128 = bt s ((i + 1 : Nat) : Int) % 128 := Int.tmod_eq_emod_of_nonneg hb.1
      rw [t1, uw (128 * valS ((bytesOf s).drop (i + 1 + 1))) (by omega), uw (bt s ((i + 1 : Nat) : Int) % 128) (by omega), uw _ (by omega), show wrap64 (((i + 1 : Nat) : Int) - 1) = (i : Int) by unfold wrap64; omega, ev]
      congr 1
      omega
theorem value_ev (s : ByteArray) (hs : s.size ≤ 1000) (h1 : 1 ≤ s.size) : Ev (fun k => ententeref01_value.f k s) (if valS ((bytesOf s).drop 1) ≤ 144115188075855871 then (valS (bytesOf s), true) else (0, false)) := by
  have := value_loop s hs (s.size - 1) (by omega)
  rw [List.drop_eq_nil_of_le (by rw [bytesOf_length]; omega)] at this
  refine Ev.congr (fun k => ?_) this
  unfold ententeref01_value.f
  rw [show wrap64 ((s.size : Int) - 1) = ((s.size - 1 : Nat) : Int) by unfold wrap64; omega]
  rfl
/-- The first bytes, cut out. -/
theorem piece_bytes (s : ByteArray) (a : Nat) (p r : List Int) (h : (bytesOf s).drop a = p ++ r) : bytesOf (s.extract a (a + p.length)) = p := by
  rw [bytesOf_extract, List.drop_take, h, Nat.add_sub_cancel_left, List.take_left]
theorem rtake_stop (s : ByteArray) (hs : s.size ≤ 140737488351232) (a : Nat) (p : List Int) (c : Int) (r : List Int) (hp : High p) (hl : p.length ≤ 9) (hc : 0 ≤ c ∧ c < 128) (e : (bytesOf s).drop a = p ++ c :: r) :
    Ev (fun k => ententeref01_TakeNumber.j2 k s (a : Int) ((a + p.length : Nat) : Int) false) (rel (a : Int) (tnS ((bytesOf s).drop a) 0 0)) := by
  have hlen := congrArg List.length e
  rw [List.length_drop, bytesOf_length, List.length_append, List.length_cons] at hlen
  have w1 : wrap64 (((a + p.length : Nat) : Int) + 1) = ((a + p.length + 1 : Nat) : Int) := by unfold wrap64; omega
  have e' : (bytesOf s).drop a = (p ++ [c]) ++ r := by rw [e]; simp
  have hpb := piece_bytes s a (p ++ [c]) r e'
  rw [List.length_append, List.length_singleton, ← Nat.add_assoc] at hpb
  obtain ⟨q, hq⟩ : ∃ q, s.extract a (a + p.length + 1) = q := ⟨_, rfl⟩
  rw [hq] at hpb
  have hqs : q.size = p.length + 1 := by rw [← size_bytesOf, hpb]; simp
  have hv := value_ev q (by omega) (by omega)
  rw [hpb] at hv
  rw [e, tnS_stop p c r hp hl hc]
  have big : (∀ k, ententeref01_TakeNumber.j2 (k + 1) s (a : Int) ((a + p.length : Nat) : Int) false = ((ententeref01_value.f k q).bind fun bt149 => (if bt149.2 = true then ((ententeref01_Number.f k bt149.1).bind fun t151 => (if t151.toList = q.toList then (some (bt149.1, ((a + p.length + 1 : Nat) : Int), 0)) else (some (0, 0, 11)))) else (some (0, 0, 11))))) := fun k => by
    rw [ententeref01_TakeNumber.j2, if_neg (by simp), if_neg (by omega), if_pos (by omega), w1, if_pos (by omega), if_pos (by omega), Int.toNat_natCast, Int.toNat_natCast, hq]
  refine Ev.step big ?_
  refine Ev.bind hv ?_
  by_cases c1 : p.length = 9 ∧ c > 1
  · rw [if_pos c1, if_neg]
    · exact Ev.congr (fun k => if_neg (by simp)) (Ev.now _)
    · obtain ⟨x, p', rfl⟩ : ∃ x p', p = x :: p' := by
        cases p with
        | nil => simp at c1
        | cons x p' => exact ⟨x, p', rfl⟩
      simp only [List.cons_append, List.drop_succ_cons, List.drop_zero]
      rw [valS_append, valS_one c hc]
      have h8 : p'.length = 8 := by simp at c1; omega
      rw [h8, show (128 : Int) ^ 8 = 72057594037927936 by decide]
      have := valS_nonneg p'
      omega
  · rw [if_neg c1]
    have okv : valS ((p ++ [c]).drop 1) ≤ 144115188075855871 := by
      cases p with
      | nil => simp [valS]
      | cons x p' =>
        simp only [List.cons_append, List.drop_succ_cons, List.drop_zero]
        rw [valS_append, valS_one c hc]
        have hv := valS_lt p'
        have h8 : p'.length ≤ 8 := by simp at hl; omega
        by_cases h8' : p'.length = 8
        · have e8 : (128 : Int) ^ p'.length = 72057594037927936 := by rw [h8']; decide
          rw [e8] at hv ⊢
          have : c ≤ 1 := by rw [List.length_cons] at c1; omega
          omega
        · have hm : (128 : Nat) ^ p'.length ≤ 128 ^ 7 := Nat.pow_le_pow_right (by decide) (by omega)
          have q7 : ((128 ^ p'.length : Nat) : Int) ≤ ((128 ^ 7 : Nat) : Int) := by exact_mod_cast hm
          have q8 : ((128 ^ p'.length : Nat) : Int) = (128 : Int) ^ p'.length := by simp
          have q9 : ((128 ^ 7 : Nat) : Int) = 562949953421312 := by decide
          have hn := valS_nonneg p'
          have : (128 : Int) ^ p'.length * c ≤ 562949953421312 * 127 := Int.mul_le_mul (by omega) (by omega) hc.1 (by decide)
          omega
    rw [if_pos okv]
    refine Ev.congr (fun k => if_pos rfl) ?_
    have hval : 0 ≤ valS (p ++ [c]) ∧ valS (p ++ [c]) < 18446744073709551616 := by
      refine ⟨valS_nonneg _, ?_⟩
      have : valS (p ++ [c]) ≤ 127 + 128 * valS ((p ++ [c]).drop 1) := by
        cases p with
        | nil => simp only [List.nil_append, List.drop_succ_cons, List.drop_zero, valS]; omega
        | cons x p' => simp only [List.cons_append, List.drop_succ_cons, List.drop_zero, valS]; omega
      omega
    refine Ev.bind (rnumber_ev _ hval) ?_
    have eqv : (Nm (valS (p ++ [c]))).toList = q.toList ↔ numS (valS (p ++ [c])).toNat = p ++ [c] := by
      rw [toList_iff]
      constructor
      · intro h
        have := congrArg bytesOf h
        rwa [nm_bytes, hpb] at this
      · intro h
        exact bytesOf_inj (by rw [nm_bytes, hpb, h])
    by_cases c2 : c = 0 ∧ p.length > 0
    · rw [if_pos c2]
      refine Ev.congr (fun k => if_neg ?_) (Ev.now _)
      intro h
      have h2 := eqv.1 h
      have h3 := canon_numS (valS (p ++ [c])).toNat
      rw [h2] at h3
      obtain ⟨p2, d, e2, _, _, _, hd⟩ := canon_parts _ h3
      have e3 := List.append_inj' e2 rfl
      have e4 : c = d := by simpa using e3.2
      rcases hd with hd | hd
      · omega
      · rw [hd] at e3; rw [e3.1] at c2; simp at c2
    · rw [if_neg c2]
      refine Ev.congr (f := fun _ => some (valS (p ++ [c]), ((a + p.length + 1 : Nat) : Int), 0)) (fun k => if_pos (eqv.2 (canon_val _ (canon_snoc p c hp hc ?_)))) ?_
      · rcases Decidable.em (c = 0) with c0 | c0
        · exact .inr (List.eq_nil_of_length_eq_zero (by omega))
        · exact .inl c0
      · rw [rel_ok]
        rw [show ((a + p.length + 1 : Nat) : Int) = (a : Int) + ((p.length : Int) + 1) by omega]
        exact Ev.now _
/-- The loop goes over what is 128 and more. -/
theorem rtake_walk (s : ByteArray) (hs : s.size ≤ 140737488351232) (a : Nat) (q : List Int) : ∀ (j : Nat) (r : List Int) (res : Int × Int × Int), High q → j + q.length ≤ 9 → (bytesOf s).drop (a + j) = q ++ r →
    Ev (fun k => ententeref01_TakeNumber.l0 k s (a : Int) ((a + j + q.length : Nat) : Int)) res → Ev (fun k => ententeref01_TakeNumber.l0 k s (a : Int) ((a + j : Nat) : Int)) res := by
  induction q with
  | nil => intro j r res _ _ _ h; simpa using h
  | cons x q ih =>
    intro j r res hq hl e h
    have hx := hq x (List.mem_cons_self ..)
    simp only [List.length_cons] at hl h
    have hlen := congrArg List.length e
    rw [List.length_drop, bytesOf_length, List.length_append, List.length_cons] at hlen
    have hb := rd_drop_bt s (a + j) (by omega)
    rw [e, List.cons_append] at hb
    simp only [List.cons.injEq] at hb
    have := ih (j + 1) r res (fun y hy => hq y (List.mem_cons_of_mem _ hy)) (by omega) hb.2.symm (by rw [show a + (j + 1) + q.length = a + j + (q.length + 1) by omega]; exact h)
    refine ev_shift 2 (fun k => ?_) this
    rw [ententeref01_TakeNumber.l0, if_pos (by omega), if_pos (by omega), ← hb.1, decide_eq_true (by omega), ententeref01_TakeNumber.j2, if_pos rfl]
    rw [show wrap64 (((a + j : Nat) : Int) + 1) = ((a + (j + 1) : Nat) : Int) by unfold wrap64; omega, show wrap64 (((a + (j + 1) : Nat) : Int) - (a : Int)) = ((j + 1 : Nat) : Int) by unfold wrap64; omega, if_neg (by omega)]
theorem rtake_ev (s : ByteArray) (hs : s.size ≤ 140737488351232) (a : Int) : Ev (fun k => ententeref01_TakeNumber.f k s a) (TN s a) := by
  have bad : Ev (fun k => ententeref01_TakeNumber.j0 k s a true) (0, 0, 2) := Ev.step (f := fun _ => some (0, 0, 2)) (fun k => by simp only [ententeref01_TakeNumber.j0, if_true]) (Ev.now _)
  by_cases c1 : a < 0
  · have : TN s a = (0, 0, 2) := if_pos (.inl c1)
    rw [this]
    exact Ev.congr (fun k => by unfold ententeref01_TakeNumber.f; rw [if_pos c1]) bad
  by_cases c2 : a > (s.size : Int)
  · have : TN s a = (0, 0, 2) := if_pos (.inr c2)
    rw [this]
    exact Ev.congr (fun k => by unfold ententeref01_TakeNumber.f; rw [if_neg c1, decide_eq_true c2]) bad
  obtain ⟨m, rfl⟩ := Int.eq_ofNat_of_zero_le (show 0 ≤ a by omega)
  have et : TN s (m : Int) = rel (m : Int) (tnS ((bytesOf s).drop m) 0 0) := if_neg (by omega)
  rw [et]
  refine Ev.congr (f := fun k => ententeref01_TakeNumber.j0 k s (m : Int) false) (fun k => by unfold ententeref01_TakeNumber.f; rw [if_neg c1, decide_eq_false c2]) ?_
  refine Ev.step (f := fun k => ententeref01_TakeNumber.l0 k s (m : Int) ((m + 0 : Nat) : Int)) (fun k => by simp only [ententeref01_TakeNumber.j0, Bool.false_eq_true, if_false]; rfl) ?_
  rcases high_split ((bytesOf s).drop m) (fun x hx => bytesOf_byte s x (List.mem_of_mem_drop hx)) with ⟨p, r, e, hp, hl⟩ | ⟨p, e, hp, hl⟩ | ⟨p, c, r, e, hp, hl, hc⟩
  · obtain ⟨q, x, rfl⟩ : ∃ q x, p = q ++ [x] := ⟨p.dropLast, p.getLast (by intro e; rw [e] at hl; simp at hl), (List.dropLast_concat_getLast _).symm⟩
    have hx := hp x (by simp)
    rw [List.length_append, List.length_singleton] at hl
    have hlen := congrArg List.length e
    rw [List.length_drop, bytesOf_length, List.length_append, List.length_append, List.length_singleton] at hlen
    refine rtake_walk s hs m q 0 (x :: r) _ (fun y hy => hp y (by simp [hy])) (by omega) (by rw [Nat.add_zero, e]; simp) ?_
    have hd : (bytesOf s).drop (m + 0 + q.length) = x :: r := by
      rw [Nat.add_zero, ← List.drop_drop, e, List.append_assoc, List.drop_left]; rfl
    have hb := rd_drop_bt s (m + 0 + q.length) (by omega)
    rw [hd] at hb
    simp only [List.cons.injEq] at hb
    rw [e, tnS_much _ r hp (by rw [List.length_append, List.length_singleton]; exact hl)]
    refine ev_shift 2 (f := fun _ => some (0, 0, 11)) (fun k => ?_) (Ev.now _)
    rw [ententeref01_TakeNumber.l0, if_pos (by omega), if_pos (by omega), ← hb.1, decide_eq_true (by omega), ententeref01_TakeNumber.j2, if_pos rfl]
    rw [show wrap64 (((m + 0 + q.length : Nat) : Int) + 1) = ((m + q.length + 1 : Nat) : Int) by unfold wrap64; omega, show wrap64 (((m + q.length + 1 : Nat) : Int) - (m : Int)) = ((q.length + 1 : Nat) : Int) by unfold wrap64; omega, if_pos (by omega)]
  · have hlen := congrArg List.length e
    rw [List.length_drop, bytesOf_length] at hlen
    refine rtake_walk s hs m p 0 [] _ hp (by omega) (by rw [Nat.add_zero, e, List.append_nil]) ?_
    rw [e, tnS_end p hp hl]
    refine ev_shift 2 (f := fun _ => some (0, 0, 10)) (fun k => ?_) (Ev.now _)
    rw [ententeref01_TakeNumber.l0, if_neg (by omega), ententeref01_TakeNumber.j2, if_neg (by simp), if_pos (by omega)]
  · have hlen := congrArg List.length e
    rw [List.length_drop, bytesOf_length, List.length_append, List.length_cons] at hlen
    refine rtake_walk s hs m p 0 (c :: r) _ hp (by omega) (by rw [Nat.add_zero, e]) ?_
    have hd : (bytesOf s).drop (m + 0 + p.length) = c :: r := by
      rw [Nat.add_zero, ← List.drop_drop, e, List.drop_left]
    have hb := rd_drop_bt s (m + 0 + p.length) (by omega)
    rw [hd] at hb
    simp only [List.cons.injEq] at hb
    refine Ev.step (fun k => ?_) (rtake_stop s hs m p c r hp hl hc e)
    rw [ententeref01_TakeNumber.l0, if_pos (by omega), if_pos (by omega), ← hb.1, decide_eq_false (by omega), Nat.add_zero]
/-! Frames: what Seal makes, what Open tells. -/
abbrev E0 : ByteArray := ⟨#[]⟩
def eightS (n : Int) : List Int := [n % 256, n / 256 % 256, n / 65536 % 256, n / 16777216 % 256, n / 4294967296 % 256, n / 1099511627776 % 256, n / 281474976710656 % 256, n / 72057594037927936 % 256]
theorem eightS_byte (n : Int) : ∀ x ∈ eightS n, Byte x := by
  intro x hx
  unfold eightS at hx
  simp only [List.mem_cons, List.not_mem_nil, or_false] at hx
  unfold Byte
  omega
def eightB (n : Int) : ByteArray := strOfNums (eightS n)
theorem eightB_bytes (n : Int) : bytesOf (eightB n) = eightS n := bytesOf_nums _ (eightS_byte n)
theorem eightB_size (n : Int) : (eightB n).size = 8 := by rw [← size_bytesOf, eightB_bytes]; rfl
/-- A frame without its sum. -/
def hdB (v : Int) (body : ByteArray) : ByteArray := strOfNums [231, v % 256] ++ Tx body
theorem hd_two (v : Int) : bytesOf (strOfNums [231, v % 256]) = [231, v % 256] := by
  refine bytesOf_nums _ (fun x hx => ?_)
  simp only [List.mem_cons, List.not_mem_nil, or_false] at hx
  unfold Byte
  omega
theorem hd_bytes (v : Int) (body : ByteArray) : bytesOf (hdB v body) = 231 :: v % 256 :: (numS body.size ++ bytesOf body) := by
  unfold hdB Tx
  rw [bytesOf_append, bytesOf_append, hd_two, nm_bytes, Int.toNat_natCast]
  rfl
theorem two_size (v : Int) : (strOfNums [231, v % 256]).size = 2 := by rw [← size_bytesOf, hd_two]; rfl
theorem hd_size (v : Int) (body : ByteArray) (h : body.size ≤ 140737488351232) : (hdB v body).size ≤ body.size + 12 := by
  unfold hdB
  rw [size_app, two_size]
  have := tx_size body h
  omega
def SEAL (v : Int) (body : ByteArray) : ByteArray × Int :=
  if v < 0 ∨ v > 255 then (E0, 2) else if (body.size : Int) > 30000 then (E0, 3) else (hdB v body ++ eightB (sumS (bytesOf (hdB v body))), 0)
theorem cat_one (s : ByteArray) : cat [s] = s := by simp only [cat]; exact app_empty s
theorem seal_ev (v : Int) (body : ByteArray) : Ev (fun k => seal_Seal.f k v body) (SEAL v body) := by
  have bad : Ev (fun k => seal_Seal.j0 k v body true) (E0, 2) := Ev.step (f := fun _ => some (E0, 2)) (fun k => by rw [seal_Seal.j0, if_pos rfl]) (Ev.now _)
  unfold seal_Seal.f SEAL
  by_cases c1 : v < 0
  · rw [if_pos (.inl c1)]
    exact Ev.congr (fun k => if_pos c1) bad
  · refine Ev.congr (fun k => if_neg c1) ?_
    by_cases c2 : v > 255
    · rw [if_pos (.inr c2), decide_eq_true c2]
      exact bad
    · rw [if_neg (by omega), decide_eq_false c2]
      by_cases c3 : (body.size : Int) > 30000
      · rw [if_pos c3]
        exact Ev.step (f := fun _ => some (E0, 3)) (fun k => by rw [seal_Seal.j0, if_neg (by decide), if_pos c3]) (Ev.now _)
      · rw [if_neg c3]
        have ht := tx_size body (by omega)
        have h2 := two_size v
        have hh := hd_size v body (by omega)
        refine Ev.step (fun k => by rw [seal_Seal.j0, if_neg (by decide), if_neg c3]) ?_
        simp only [Option.bind_some]
        refine Ev.bind (text_ev body (by omega)) ?_
        refine Ev.congr (fun k => if_pos (by omega)) ?_
        have hs := sum_ev [hdB v body] (fun s hs => by rw [List.mem_singleton] at hs; subst hs; omega) (by simp)
        rw [cat_one] at hs
        refine Ev.bind hs ?_
        have h8 : seal_eight.f (sumS (bytesOf (hdB v body))) = some (eightB (sumS (bytesOf (hdB v body)))) := rfl
        have h9 := eightB_size (sumS (bytesOf (hdB v body)))
        have hx : (strOfNums [231, v % 256] ++ Tx body).size ≤ body.size + 12 := hh
        refine Ev.congr (f := fun _ => some (hdB v body ++ eightB (sumS (bytesOf (hdB v body))), 0)) (fun k => ?_) (Ev.now _)
        rw [h8, Option.bind_some, if_pos (by omega)]
        rfl
/-- What Open tells. -/
def OP (s : ByteArray) (a v : Int) : ByteArray × Int × Int :=
  if a < 0 ∨ a > (s.size : Int) ∨ v < 0 ∨ v > 255 then (E0, 0, 2)
  else if a = (s.size : Int) then (E0, 0, 10)
  else if bt s a = 231 then
    if a + 1 = (s.size : Int) then (E0, 0, 10)
    else if bt s (a + 1) = v then
      if (TN s (a + 2)).2.2 = 0 then
        if (TN s (a + 2)).1 > 30000 then (E0, 0, 3)
        else if (TN s (a + 2)).1 + 8 > (s.size : Int) - (TN s (a + 2)).2.1 then (E0, 0, 10)
        else if eightB (sumS (bytesOf (s.extract a.toNat ((TN s (a + 2)).2.1 + (TN s (a + 2)).1).toNat))) = s.extract ((TN s (a + 2)).2.1 + (TN s (a + 2)).1).toNat ((TN s (a + 2)).2.1 + (TN s (a + 2)).1 + 8).toNat
        then (s.extract (TN s (a + 2)).2.1.toNat ((TN s (a + 2)).2.1 + (TN s (a + 2)).1).toNat, (TN s (a + 2)).2.1 + (TN s (a + 2)).1 + 8, 0) else (E0, 0, 22)
      else (E0, 0, (TN s (a + 2)).2.2)
    else (E0, 0, 21)
  else (E0, 0, 20)
theorem extract_size (s : ByteArray) (a b : Nat) : (s.extract a b).size ≤ s.size := by
  rw [← size_bytesOf, bytesOf_extract, List.length_drop, List.length_take, size_bytesOf]
  omega
theorem open_ev (s : ByteArray) (hs : s.size ≤ 1000000000) (a v : Int) : Ev (fun k => seal_Open.f k s a v) (OP s a v) := by
  have bad : Ev (fun k => seal_Open.j0 k s a v true) (E0, 0, 2) := Ev.step (f := fun _ => some (E0, 0, 2)) (fun k => by rw [seal_Open.j0, if_pos rfl]) (Ev.now _)
  unfold seal_Open.f
  by_cases c1 : a < 0
  · rw [show OP s a v = (E0, 0, 2) from if_pos (.inl c1)]
    exact Ev.congr (fun k => if_pos c1) bad
  refine Ev.congr (fun k => if_neg c1) ?_
  by_cases c2 : a > (s.size : Int)
  · rw [show OP s a v = (E0, 0, 2) from if_pos (.inr (.inl c2))]
    exact Ev.congr (fun k => if_pos c2) bad
  refine Ev.congr (fun k => if_neg c2) ?_
  by_cases c3 : v < 0
  · rw [show OP s a v = (E0, 0, 2) from if_pos (.inr (.inr (.inl c3)))]
    exact Ev.congr (fun k => if_pos c3) bad
  refine Ev.congr (fun k => if_neg c3) ?_
  by_cases c4 : v > 255
  · rw [show OP s a v = (E0, 0, 2) from if_pos (.inr (.inr (.inr c4))), decide_eq_true c4]
    exact bad
  rw [decide_eq_false c4]
  unfold OP
  rw [if_neg (by omega)]
  refine Ev.step (fun k => by rw [seal_Open.j0, if_neg (by decide)]) ?_
  by_cases c5 : a = (s.size : Int)
  · rw [if_pos c5]
    exact Ev.congr (fun k => if_pos c5) (Ev.now _)
  rw [if_neg c5]
  refine Ev.congr (fun k => by rw [if_neg c5, if_pos (by omega), if_pos (by omega)]) ?_
  by_cases c6 : bt s a = 231
  · rw [if_pos c6]
    refine Ev.congr (fun k => if_pos c6) ?_
    have w1 : wrap64 (a + 1) = a + 1 := wr _ (by omega)
    have w2 : wrap64 (a + 2) = a + 2 := wr _ (by omega)
    rw [w1, w2]
    by_cases c7 : a + 1 = (s.size : Int)
    · rw [if_pos c7]
      exact Ev.congr (fun k => if_pos c7) (Ev.now _)
    rw [if_neg c7]
    have hb := bt_range s (a + 1)
    rw [wr (bt s (a + 1)) (by omega)]
    refine Ev.congr (fun k => by rw [if_neg c7, if_pos (by omega), if_pos (by omega)]) ?_
    by_cases c8 : bt s (a + 1) = v
    · rw [if_pos c8]
      refine Ev.congr (fun k => if_pos c8) ?_
      refine Ev.bind (take_ev s (by omega) (a + 2)) ?_
      by_cases c9 : (TN s (a + 2)).2.2 = 0
      · rw [if_pos c9]
        refine Ev.congr (fun k => if_pos c9) ?_
        have hf := tn_facts s (by omega) (a + 2)
        rcases hf with hf | ⟨_, f1, f2, f3, f4, f5⟩
        · exact absurd c9 hf.1
        by_cases c10 : (TN s (a + 2)).1 > 30000
        · rw [if_pos c10]
          exact Ev.congr (fun k => if_pos c10) (Ev.now _)
        rw [if_neg c10]
        refine Ev.congr (fun k => if_neg c10) ?_
        rw [wr (TN s (a + 2)).1 (by omega), wr ((TN s (a + 2)).1 + 8) (by omega), wr ((s.size : Int) - (TN s (a + 2)).2.1) (by omega)]
        by_cases c11 : (TN s (a + 2)).1 + 8 > (s.size : Int) - (TN s (a + 2)).2.1
        · rw [if_pos c11]
          exact Ev.congr (fun k => if_pos c11) (Ev.now _)
        rw [if_neg c11]
        rw [wr ((TN s (a + 2)).2.1 + (TN s (a + 2)).1) (by omega), wr ((TN s (a + 2)).2.1 + (TN s (a + 2)).1 + 8) (by omega)]
        refine Ev.congr (fun k => by rw [if_neg c11, if_pos (by omega), if_pos (by omega)]) ?_
        have hsz := extract_size s a.toNat ((TN s (a + 2)).2.1 + (TN s (a + 2)).1).toNat
        have hsum := sum_ev [s.extract a.toNat ((TN s (a + 2)).2.1 + (TN s (a + 2)).1).toNat] (fun t ht => by rw [List.mem_singleton] at ht; subst ht; omega) (by simp)
        rw [cat_one] at hsum
        refine Ev.bind hsum ?_
        have h8 : ∀ n, seal_eight.f n = some (eightB n) := fun _ => rfl
        simp only [h8, Option.bind_some]
        refine Ev.congr (fun k => by rw [if_pos (by omega), if_pos (by omega), if_pos (by omega)]) ?_
        by_cases c12 : eightB (sumS (bytesOf (s.extract a.toNat ((TN s (a + 2)).2.1 + (TN s (a + 2)).1).toNat))) = s.extract ((TN s (a + 2)).2.1 + (TN s (a + 2)).1).toNat ((TN s (a + 2)).2.1 + (TN s (a + 2)).1 + 8).toNat
        · rw [if_pos c12]
          exact Ev.congr (fun k => by rw [if_pos (toList_iff.2 c12), if_pos (by omega), if_pos (by omega)]) (Ev.now _)
        · rw [if_neg c12]
          exact Ev.congr (fun k => if_neg (fun h => c12 (toList_iff.1 h))) (Ev.now _)
      · rw [if_neg c9]
        exact Ev.congr (fun k => if_neg c9) (Ev.now _)
    · rw [if_neg c8]
      exact Ev.congr (fun k => if_neg c8) (Ev.now _)
  · rw [if_neg c6]
    exact Ev.congr (fun k => if_neg c6) (Ev.now _)
theorem eight_step (x : Int) (hx : 0 ≤ x ∧ x < 18446744073709551616) (acc : List Int) (i : Nat) (hi : i < 8) (ha : acc.length ≤ 8) (r : ByteArray)
    (h : Ev (fun k => ententeref02_eight.l0 k (x / 256) (acc ++ [x % 256]) ((i + 1 : Nat) : Int)) r) : Ev (fun k => ententeref02_eight.l0 k x acc (i : Int)) r := by
  refine Ev.step (fun k => ?_) h
  rw [ententeref02_eight.l0, if_pos (by omega), if_pos (by omega), wr _ (by omega), Int.tmod_eq_emod_of_nonneg hx.1, Int.tdiv_eq_ediv_of_nonneg hx.1, uw _ (by omega), Int.emod_emod_of_dvd x (Int.dvd_refl 256)]
  rfl
theorem reight_ev (n : Int) (h : 0 ≤ n ∧ n < 18446744073709551616) : Ev (fun k => ententeref02_eight.f k n) (eightB n) := by
  unfold ententeref02_eight.f
  refine eight_step n h [] 0 (by omega) (by simp) _ ?_
  refine eight_step _ (by omega) _ 1 (by omega) (by simp) _ ?_
  refine eight_step _ (by omega) _ 2 (by omega) (by simp) _ ?_
  refine eight_step _ (by omega) _ 3 (by omega) (by simp) _ ?_
  refine eight_step _ (by omega) _ 4 (by omega) (by simp) _ ?_
  refine eight_step _ (by omega) _ 5 (by omega) (by simp) _ ?_
  refine eight_step _ (by omega) _ 6 (by omega) (by simp) _ ?_
  refine eight_step _ (by omega) _ 7 (by omega) (by simp) _ ?_
  refine Ev.step (f := fun _ => some (eightB n)) (fun k => ?_) (Ev.now _)
  rw [ententeref02_eight.l0, if_neg (by omega)]
  unfold eightB eightS
  congr 2
  simp only [List.nil_append, List.cons_append]
  congr 1
  rw [show n / 256 / 256 = n / 65536 by omega]
  congr 1
  congr 1
  rw [show n / 65536 / 256 = n / 16777216 by omega]
  congr 1
  rw [show n / 16777216 / 256 = n / 4294967296 by omega]
  congr 1
  rw [show n / 4294967296 / 256 = n / 1099511627776 by omega]
  congr 1
  rw [show n / 1099511627776 / 256 = n / 281474976710656 by omega]
  congr 1
  rw [show n / 281474976710656 / 256 = n / 72057594037927936 by omega]
theorem sumS_range (l : List Int) : 0 ≤ sumS l ∧ sumS l < 18446744073709551616 := i64_range _
theorem rseal_ev (v : Int) (body : ByteArray) : Ev (fun k => ententeref02_Seal.f k v body) (SEAL v body) := by
  have bad : Ev (fun k => ententeref02_Seal.j0 k v body true) (E0, 2) := Ev.step (f := fun _ => some (E0, 2)) (fun k => by rw [ententeref02_Seal.j0, if_pos rfl]) (Ev.now _)
  unfold ententeref02_Seal.f SEAL
  by_cases c1 : v < 0
  · rw [if_pos (.inl c1)]
    exact Ev.congr (fun k => if_pos c1) bad
  · refine Ev.congr (fun k => if_neg c1) ?_
    by_cases c2 : v > 255
    · rw [if_pos (.inr c2), decide_eq_true c2]
      exact bad
    · rw [if_neg (by omega), decide_eq_false c2]
      by_cases c3 : (body.size : Int) > 30000
      · rw [if_pos c3]
        exact Ev.step (f := fun _ => some (E0, 3)) (fun k => by rw [ententeref02_Seal.j0, if_neg (by decide), if_pos c3]) (Ev.now _)
      · rw [if_neg c3]
        have ht := tx_size body (by omega)
        have h2 := two_size v
        have hh := hd_size v body (by omega)
        refine Ev.step (fun k => by rw [ententeref02_Seal.j0, if_neg (by decide), if_neg c3]) ?_
        simp only [Option.bind_some]
        refine Ev.bind (rtext_ev body (by omega)) ?_
        refine Ev.congr (fun k => if_pos (by omega)) ?_
        refine Ev.bind (rsum_ev (hdB v body) (by omega)) ?_
        refine Ev.bind (reight_ev _ (sumS_range _)) ?_
        have h9 := eightB_size (sumS (bytesOf (hdB v body)))
        have hx : (strOfNums [231, v % 256] ++ Tx body).size ≤ body.size + 12 := hh
        exact Ev.congr (f := fun _ => some (hdB v body ++ eightB (sumS (bytesOf (hdB v body))), 0)) (fun k => by rw [if_pos (by omega)]; rfl) (Ev.now _)
/-! The document's Open: over the rest. -/
theorem rest_bytes (s : ByteArray) (a : Nat) : bytesOf (s.extract a s.size) = (bytesOf s).drop a := by
  rw [bytesOf_extract, List.take_of_length_le (by rw [size_bytesOf]; omega)]
theorem rest_size (s : ByteArray) (a : Nat) : (s.extract a s.size).size = s.size - a := by
  rw [← size_bytesOf, rest_bytes, List.length_drop, size_bytesOf]
theorem rest_bt (s : ByteArray) (a i : Nat) (h : a + i < s.size) : bt (s.extract a s.size) (i : Int) = bt s ((a : Int) + (i : Int)) := by
  have e : ((a : Int) + (i : Int)) = ((a + i : Nat) : Int) := by omega
  rw [e, bt_nat _ i (by rw [rest_size]; omega), bt_nat _ (a + i) h]
  simp only [rest_bytes]
  rw [List.getElem_drop]
theorem rest_extract (s : ByteArray) (a b c : Nat) : (s.extract a s.size).extract b c = s.extract (a + b) (a + c) := by
  apply bytesOf_inj
  rw [bytesOf_extract, rest_bytes, bytesOf_extract, List.take_drop, List.drop_drop]
/-- A number that is taken stands there as it is laid. -/
theorem tn_parts (s : ByteArray) (a : Nat) (ha : a ≤ s.size) (h : (TN s (a : Int)).2.2 = 0) :
    ∃ R, (bytesOf s).drop a = numS (TN s (a : Int)).1.toNat ++ R ∧ (TN s (a : Int)).2.1 = (a : Int) + ((numS (TN s (a : Int)).1.toNat).length : Int) := by
  have e : TN s (a : Int) = rel (a : Int) (tnS ((bytesOf s).drop a) 0 0) := if_neg (by omega)
  rw [e] at h ⊢
  have h' : (tnS ((bytesOf s).drop a) 0 0).2.2 = 0 := h
  obtain ⟨m, r, h4, h5, h6, h7, h8⟩ := tnS_ok _ (fun x hx => bytesOf_byte s x (List.mem_of_mem_drop hx)) h'
  rw [h7, rel_ok]
  have hc := canon_val m h5
  exact ⟨r, by rw [hc]; exact h4, by rw [hc]⟩
theorem tn_rest (s : ByteArray) (a : Nat) (h : a + 2 ≤ s.size) : (TN (s.extract a s.size) 2).1 = (TN s ((a : Int) + 2)).1 ∧ (TN (s.extract a s.size) 2).2.2 = (TN s ((a : Int) + 2)).2.2 ∧ ((TN s ((a : Int) + 2)).2.2 = 0 → (TN s ((a : Int) + 2)).2.1 = (a : Int) + (TN (s.extract a s.size) 2).2.1) := by
  have e1 : TN s ((a : Int) + 2) = rel ((a : Int) + 2) (tnS ((bytesOf s).drop (a + 2)) 0 0) := by
    unfold TN
    rw [if_neg (by omega), show ((a : Int) + 2).toNat = a + 2 by omega]
    rfl
  have e2 : TN (s.extract a s.size) 2 = rel 2 (tnS ((bytesOf s).drop (a + 2)) 0 0) := by
    unfold TN
    have hz := rest_size s a
    rw [if_neg (by omega), rest_bytes, List.drop_drop]
    rfl
  rw [e1, e2]
  unfold rel
  refine ⟨rfl, rfl, fun h0 => ?_⟩
  have h1 : (tnS ((bytesOf s).drop (a + 2)) 0 0).2.2 = 0 := h0
  show (if (tnS ((bytesOf s).drop (a + 2)) 0 0).2.2 = 0 then (a : Int) + 2 + _ else 0) = (a : Int) + (if (tnS ((bytesOf s).drop (a + 2)) 0 0).2.2 = 0 then 2 + _ else 0)
  rw [if_pos h1, if_pos h1]
  omega
/-- What stands ahead of the sum is the frame's begin. -/
theorem frame_is (s : ByteArray) (a n f : Nat) (v : Int) (hv : 0 ≤ v ∧ v ≤ 255) (ha : a + 2 ≤ s.size) (h0 : bt s (a : Int) = 231) (h1 : bt s ((a : Int) + 1) = v)
    (hk : (TN s ((a : Int) + 2)).2.2 = 0) (hn : (TN s ((a : Int) + 2)).1 = (n : Int)) (hf : (TN s ((a : Int) + 2)).2.1 = (f : Int)) (hl : f + n ≤ s.size) :
    s.extract a (f + n) = hdB v (s.extract f (f + n)) ∧ (s.extract f (f + n)).size = n := by
  have e2 : ((a : Int) + 2) = ((a + 2 : Nat) : Int) := by omega
  rw [e2] at hk hn hf
  obtain ⟨R, hR, hp⟩ := tn_parts s (a + 2) ha hk
  rw [hn, Int.toNat_natCast] at hR hp
  rw [hf] at hp
  have hD : (bytesOf s).drop a = 231 :: v :: (bytesOf s).drop (a + 2) := by
    rw [List.drop_eq_getElem_cons (by rw [size_bytesOf]; omega), ← bt_nat s a (by omega), h0, List.drop_eq_getElem_cons (i := a + 1) (by rw [size_bytesOf]; omega), ← bt_nat s (a + 1) (by omega)]
    rw [show (((a + 1 : Nat) : Int)) = (a : Int) + 1 by omega, h1]
  have hDf : (bytesOf s).drop f = R := by
    have : (bytesOf s).drop f = ((bytesOf s).drop (a + 2)).drop (numS n).length := by rw [List.drop_drop]; congr 1; omega
    rw [this, hR, List.drop_left]
  have hbody : bytesOf (s.extract f (f + n)) = R.take n := by
    rw [bytesOf_extract, List.drop_take, hDf]
    congr 1
    omega
  have hRl : n ≤ R.length := by
    rw [← hDf, List.length_drop, size_bytesOf]
    omega
  have hsz : (s.extract f (f + n)).size = n := by
    rw [← size_bytesOf, hbody, List.length_take]
    omega
  refine ⟨?_, hsz⟩
  apply bytesOf_inj
  rw [hd_bytes, hsz, hbody, bytesOf_extract, List.drop_take, hD, hR, show f + n - a = (numS n).length + n + 2 by omega]
  rw [List.take_succ_cons, List.take_succ_cons, List.take_length_add_append, show v % 256 = v by omega]
theorem ropen_ev (s : ByteArray) (hs : s.size ≤ 1000000000) (a v : Int) : Ev (fun k => ententeref02_Open.f k s a v) (OP s a v) := by
  have bad : Ev (fun k => ententeref02_Open.j0 k s a v true) (E0, 0, 2) := Ev.step (f := fun _ => some (E0, 0, 2)) (fun k => by rw [ententeref02_Open.j0, if_pos rfl]) (Ev.now _)
  unfold ententeref02_Open.f
  by_cases c1 : a < 0
  · rw [show OP s a v = (E0, 0, 2) from if_pos (.inl c1)]
    exact Ev.congr (fun k => if_pos c1) bad
  refine Ev.congr (fun k => if_neg c1) ?_
  by_cases c2 : a > (s.size : Int)
  · rw [show OP s a v = (E0, 0, 2) from if_pos (.inr (.inl c2))]
    exact Ev.congr (fun k => if_pos c2) bad
  refine Ev.congr (fun k => if_neg c2) ?_
  by_cases c3 : v < 0
  · rw [show OP s a v = (E0, 0, 2) from if_pos (.inr (.inr (.inl c3)))]
    exact Ev.congr (fun k => if_pos c3) bad
  refine Ev.congr (fun k => if_neg c3) ?_
  by_cases c4 : v > 255
  · rw [show OP s a v = (E0, 0, 2) from if_pos (.inr (.inr (.inr c4))), decide_eq_true c4]
    exact bad
  rw [decide_eq_false c4]
  obtain ⟨m, rfl⟩ := Int.eq_ofNat_of_zero_le (show 0 ≤ a by omega)
  unfold OP
  rw [if_neg (by omega)]
  refine Ev.step (fun k => by rw [ententeref02_Open.j0, if_neg (by decide), if_pos (by omega), if_pos (by omega), Int.toNat_natCast]) ?_
  generalize hR : s.extract m s.size = R
  have hRs : R.size = s.size - m := by rw [← hR, rest_size]
  have hRb : bytesOf R = (bytesOf s).drop m := by rw [← hR, rest_bytes]
  have hempty : R.toList = ([] : List UInt8) ↔ R.size = 0 := by
    have : R.toList = ([] : List UInt8) ↔ R.toList = ByteArray.empty.toList := by rw [show ByteArray.empty.toList = ([] : List UInt8) from by decide +kernel]
    rw [this, toList_iff]
    constructor
    · intro h; rw [h]; rfl
    · intro h
      apply bytesOf_inj
      rw [bytesOf_empty]
      exact List.eq_nil_of_length_eq_zero (by rw [size_bytesOf, h])
  by_cases c5 : (m : Int) = (s.size : Int)
  · rw [if_pos c5]
    exact Ev.congr (fun k => if_pos (hempty.2 (by omega))) (Ev.now _)
  rw [if_neg c5]
  have b0 : bt R 0 = bt s (m : Int) := by
    have := rest_bt s m 0 (by omega)
    rw [hR] at this
    simpa using this
  refine Ev.congr (fun k => by rw [if_neg (fun h => by have := hempty.1 h; omega), if_pos (by omega), b0]) ?_
  by_cases c6 : bt s (m : Int) = 231
  · rw [if_pos c6]
    refine Ev.congr (fun k => if_pos c6) ?_
    by_cases c7 : (m : Int) + 1 = (s.size : Int)
    · rw [if_pos c7]
      exact Ev.congr (fun k => if_pos (by omega)) (Ev.now _)
    rw [if_neg c7]
    have b1 : bt R 1 = bt s ((m : Int) + 1) := by
      have := rest_bt s m 1 (by omega)
      rw [hR] at this
      exact this
    have hb := bt_range s ((m : Int) + 1)
    rw [b1, wr (bt s ((m : Int) + 1)) (by omega)]
    refine Ev.congr (fun k => by rw [if_neg (by omega), if_pos (by omega)]) ?_
    by_cases c8 : bt s ((m : Int) + 1) = v
    · rw [if_pos c8]
      refine Ev.congr (fun k => if_pos c8) ?_
      refine Ev.bind (rtake_ev R (by omega) 2) ?_
      obtain ⟨t1, t2, t3⟩ := tn_rest s m (by omega)
      rw [hR] at t1 t2 t3
      by_cases c9 : (TN s ((m : Int) + 2)).2.2 = 0
      · rw [if_pos c9]
        refine Ev.congr (fun k => if_pos (by rw [t2]; exact c9)) ?_
        have t3 := t3 c9
        rcases tn_facts s (by omega) ((m : Int) + 2) with hf | ⟨_, f1, f2, f3, f4, f5⟩
        · exact absurd c9 hf.1
        rcases tn_facts R (by omega) 2 with hf | ⟨_, g1, g2, g3, g4, g5⟩
        · exact absurd (t2.trans c9) hf.1
        rw [t1]
        by_cases c10 : (TN s ((m : Int) + 2)).1 > 30000
        · rw [if_pos c10]
          exact Ev.congr (fun k => if_pos c10) (Ev.now _)
        rw [if_neg c10]
        refine Ev.congr (fun k => if_neg c10) ?_
        rw [wr (TN s ((m : Int) + 2)).1 (by omega), wr ((TN s ((m : Int) + 2)).1 + 8) (by omega), wr ((R.size : Int) - (TN R 2).2.1) (by omega)]
        by_cases c11 : (TN s ((m : Int) + 2)).1 + 8 > (s.size : Int) - (TN s ((m : Int) + 2)).2.1
        · rw [if_pos c11]
          exact Ev.congr (fun k => if_pos (by omega)) (Ev.now _)
        rw [if_neg c11]
        rw [wr ((TN R 2).2.1 + (TN s ((m : Int) + 2)).1) (by omega), wr ((TN R 2).2.1 + (TN s ((m : Int) + 2)).1 + 8) (by omega)]
        refine Ev.congr (fun k => by rw [if_neg (by omega), if_pos (by omega), if_pos (by omega), if_pos (by omega)]) ?_
        obtain ⟨n, hn⟩ := Int.eq_ofNat_of_zero_le f1
        obtain ⟨f, hf⟩ := Int.eq_ofNat_of_zero_le (show 0 ≤ (TN s ((m : Int) + 2)).2.1 by omega)
        obtain ⟨g, hg⟩ := Int.eq_ofNat_of_zero_le (show 0 ≤ (TN R 2).2.1 by omega)
        have hfg : f = m + g := by omega
        obtain ⟨q1, q2⟩ := frame_is s m n f v (by omega) (by omega) c6 c8 c9 hn hf (by omega)
        rw [hn, hf, hg]
        rw [show ((f : Int) + (n : Int)).toNat = f + n by omega, show ((f : Int) + (n : Int) + 8).toNat = f + n + 8 by omega, show ((g : Int) + (n : Int)).toNat = g + n by omega, show ((g : Int) + (n : Int) + 8).toNat = g + n + 8 by omega, Int.toNat_natCast, Int.toNat_natCast, Int.toNat_natCast]
        have x1 : R.extract g (g + n) = s.extract f (f + n) := by rw [← hR, rest_extract, hfg, Nat.add_assoc]
        have x2 : R.extract 0 (g + n + 8) = hdB v (s.extract f (f + n)) ++ s.extract (f + n) (f + n + 8) := by
          rw [← hR, rest_extract, Nat.add_zero, ← q1, show m + (g + n + 8) = f + n + 8 by omega]
          apply bytesOf_inj
          rw [bytesOf_append, bytesOf_extract, bytesOf_extract, bytesOf_extract]
          have hle : m ≤ f + n := by omega
          have e1 : ((bytesOf s).take (f + n + 8)).drop m = (((bytesOf s).take (f + n + 8)).drop m).take (f + n - m) ++ (((bytesOf s).take (f + n + 8)).drop m).drop (f + n - m) := (List.take_append_drop _ _).symm
          rw [e1]
          congr 1
          · rw [List.take_drop, List.take_take, show min (m + (f + n - m)) (f + n + 8) = f + n by omega]
          · rw [List.drop_drop, show m + (f + n - m) = f + n by omega]
        rw [x1, x2]
        refine Ev.bind (rseal_ev v (s.extract f (f + n))) ?_
        have hS : SEAL v (s.extract f (f + n)) = (hdB v (s.extract f (f + n)) ++ eightB (sumS (bytesOf (hdB v (s.extract f (f + n))))), 0) := by
          unfold SEAL
          rw [if_neg (by omega), if_neg (by omega)]
        rw [hS]
        refine Ev.congr (fun k => by rw [if_pos (by omega), if_pos (by omega)]) ?_
        rw [q1]
        have hcut : (hdB v (s.extract f (f + n)) ++ eightB (sumS (bytesOf (hdB v (s.extract f (f + n))))) = hdB v (s.extract f (f + n)) ++ s.extract (f + n) (f + n + 8)) ↔ eightB (sumS (bytesOf (hdB v (s.extract f (f + n))))) = s.extract (f + n) (f + n + 8) := by
          constructor
          · intro h
            apply bytesOf_inj
            have h2 := congrArg bytesOf h
            rw [bytesOf_append, bytesOf_append] at h2
            exact List.append_cancel_left h2
          · intro h; rw [h]
        have hsz : (hdB v (s.extract f (f + n))).size = f + n - m := by
          rw [← q1, ← size_bytesOf, bytesOf_extract, List.length_drop, List.length_take, size_bytesOf]
          omega
        by_cases c12 : eightB (sumS (bytesOf (hdB v (s.extract f (f + n))))) = s.extract (f + n) (f + n + 8)
        · rw [if_pos c12]
          refine Ev.congr (fun k => if_pos (toList_iff.2 (hcut.2 c12))) ?_
          rw [size_app, hsz, eightB_size, wr _ (by omega)]
          have : (m : Int) + ((f + n - m + 8 : Nat) : Int) = (f : Int) + (n : Int) + 8 := by omega
          rw [this]
          exact Ev.now _
        · rw [if_neg c12]
          exact Ev.congr (fun k => if_neg (fun h => c12 (hcut.1 (toList_iff.1 h)))) (Ev.now _)
      · rw [if_neg c9, ← t2]
        exact Ev.congr (fun k => if_neg (by rw [t2]; exact c9)) (Ev.now _)
    · rw [if_neg c8]
      exact Ev.congr (fun k => if_neg c8) (Ev.now _)
  · rw [if_neg c6]
    exact Ev.congr (fun k => if_neg c6) (Ev.now _)
/-! tests and rounds -/
theorem ev_ite {α : Type} {c : Prop} [Decidable c] {f g : Nat → Option α} {r : α} (h1 : c → Ev f r) (h2 : ¬ c → Ev g r) : Ev (fun k => if c then f k else g k) r := by
  by_cases hc : c
  · exact Ev.congr (fun k => if_pos hc) (h1 hc)
  · exact Ev.congr (fun k => if_neg hc) (h2 hc)
theorem ev_pos {α : Type} {c : Prop} [Decidable c] {f g : Nat → Option α} {r : α} (hc : c) (h1 : Ev f r) : Ev (fun k => if c then f k else g k) r := Ev.congr (fun k => if_pos hc) h1
theorem ev_neg {α : Type} {c : Prop} [Decidable c] {f g : Nat → Option α} {r : α} (hc : ¬ c) (h2 : Ev g r) : Ev (fun k => if c then f k else g k) r := Ev.congr (fun k => if_neg hc) h2
theorem ev_eq {α : Type} {f : Nat → Option α} {r r' : α} (h : Ev f r) (e : r = r') : Ev f r' := e ▸ h
/-! Frames, as lists of bytes: where one stands, Open tells it; and of what Open tells a frame stood there. -/
def VOK (v : Int) : Prop := 0 ≤ v ∧ v ≤ 255
/-- A frame's bytes. -/
def frB (v : Int) (body : ByteArray) : List Int := (231 :: v :: (numS body.size ++ bytesOf body)) ++ eightS (sumS (231 :: v :: (numS body.size ++ bytesOf body)))
def FR (v : Int) (body : ByteArray) : ByteArray := hdB v body ++ eightB (sumS (bytesOf (hdB v body)))
theorem hd_ok (v : Int) (hv : VOK v) (body : ByteArray) : bytesOf (hdB v body) = 231 :: v :: (numS body.size ++ bytesOf body) := by
  rw [hd_bytes, Int.emod_eq_of_lt hv.1 (by have := hv.2; omega)]
theorem fr_bytes (v : Int) (hv : VOK v) (body : ByteArray) : bytesOf (FR v body) = frB v body := by
  unfold FR frB
  rw [bytesOf_append, eightB_bytes, hd_ok v hv]
theorem frB_len (v : Int) (body : ByteArray) : (frB v body).length = 10 + (numS body.size).length + body.size := by
  unfold frB eightS
  simp [size_bytesOf]
  omega
theorem seal_ok (v : Int) (hv : VOK v) (body : ByteArray) (hb : (body.size : Int) ≤ 30000) : SEAL v body = (FR v body, 0) := by
  unfold SEAL
  have := hv.1
  have := hv.2
  rw [if_neg (by omega), if_neg (by omega)]
  rfl
theorem seal_bad (v : Int) (body : ByteArray) (h : ¬ (VOK v ∧ (body.size : Int) ≤ 30000)) : (SEAL v body).2 ≠ 0 := by
  unfold SEAL
  by_cases c : v < 0 ∨ v > 255
  · rw [if_pos c]
    decide
  · rw [if_neg c]
    have : (body.size : Int) > 30000 := by
      unfold VOK at h
      omega
    rw [if_pos this]
    decide
theorem bt_drop (s : ByteArray) (a : Nat) (l : List Int) (h : (bytesOf s).drop a = l) (i : Nat) (hi : i < l.length) : bt s ((a : Int) + (i : Int)) = l[i] := by
  have hl : l.length = s.size - a := by rw [← h, List.length_drop, size_bytesOf]
  have e : ((a : Int) + (i : Int)) = ((a + i : Nat) : Int) := by omega
  rw [e, bt_nat s (a + i) (by omega)]
  subst h
  rw [List.getElem_drop]
theorem tn_drop (s : ByteArray) (a : Nat) (l : List Int) (h : (bytesOf s).drop a = l) (hl : 2 ≤ l.length) : TN s ((a : Int) + 2) = ((tnS (l.drop 2) 0 0).1, (if (tnS (l.drop 2) 0 0).2.2 = 0 then (a : Int) + 2 + (tnS (l.drop 2) 0 0).2.1 else 0), (tnS (l.drop 2) 0 0).2.2) := by
  have hs : l.length = s.size - a := by rw [← h, List.length_drop, size_bytesOf]
  unfold TN
  rw [if_neg (by omega), show ((a : Int) + 2).toNat = a + 2 from by omega, ← h, List.drop_drop]
theorem ext_bytes (s : ByteArray) (a b n : Nat) (l : List Int) (h : (bytesOf s).drop a = l) (hb : b = a + n) : bytesOf (s.extract a b) = l.take n := by
  rw [bytesOf_extract, hb, List.drop_take, h]
  congr 1
  omega
theorem op_frame (s : ByteArray) (a : Nat) (v : Int) (hv : VOK v) (body : ByteArray) (hb : body.size ≤ 30000) (r : List Int) (h : (bytesOf s).drop a = frB v body ++ r) :
    OP s (a : Int) v = (body, (a : Int) + (frB v body).length, 0) := by
  have hfl := frB_len v body
  have hs : (frB v body ++ r).length = s.size - a := by rw [← h, List.length_drop, size_bytesOf]
  rw [List.length_append] at hs
  have hv0 := hv.1
  have hv1 := hv.2
  have hL : frB v body ++ r = 231 :: v :: (numS body.size ++ (bytesOf body ++ (eightS (sumS (231 :: v :: (numS body.size ++ bytesOf body))) ++ r))) := by
    unfold frB
    simp
  have h0 : bt s (a : Int) = 231 := by
    have := bt_drop s a _ h 0 (by rw [List.length_append]; omega)
    rw [show ((a : Int) + ((0 : Nat) : Int)) = (a : Int) by omega] at this
    rw [this]
    simp only [hL, List.getElem_cons_zero]
  have h1 : bt s ((a : Int) + 1) = v := by
    have := bt_drop s a _ h 1 (by rw [List.length_append]; omega)
    rw [show ((a : Int) + ((1 : Nat) : Int)) = (a : Int) + 1 by omega] at this
    rw [this]
    simp only [hL, List.getElem_cons_succ, List.getElem_cons_zero]
  have hd2 : (frB v body ++ r).drop 2 = numS body.size ++ (bytesOf body ++ (eightS (sumS (231 :: v :: (numS body.size ++ bytesOf body))) ++ r)) := by rw [hL]; rfl
  have hT := tn_drop s a _ h (by rw [List.length_append]; omega)
  rw [hd2, tnS_canon _ _ (canon_numS body.size) (by rw [valS_numS]; omega), valS_numS] at hT
  simp only [if_pos] at hT
  have e8 : (eightS (sumS (231 :: v :: (numS body.size ++ bytesOf body)))).length = 8 := rfl
  have x1 : bytesOf (s.extract a (a + (2 + (numS body.size).length + body.size))) = 231 :: v :: (numS body.size ++ bytesOf body) := by
    rw [ext_bytes s a _ _ _ h rfl]
    unfold frB
    rw [List.append_assoc, List.take_append_of_le_length (by simp [size_bytesOf]; omega), List.take_of_length_le (by simp [size_bytesOf]; omega)]
  have x2 : bytesOf (s.extract (a + (2 + (numS body.size).length + body.size)) (a + (2 + (numS body.size).length + body.size) + 8)) = eightS (sumS (231 :: v :: (numS body.size ++ bytesOf body))) := by
    have hd : (bytesOf s).drop (a + (2 + (numS body.size).length + body.size)) = eightS (sumS (231 :: v :: (numS body.size ++ bytesOf body))) ++ r := by
      rw [← List.drop_drop, h]
      unfold frB
      rw [List.append_assoc, List.drop_append_of_le_length (by simp [size_bytesOf]; omega), List.drop_of_length_le (by simp [size_bytesOf]; omega)]
      rfl
    rw [ext_bytes s _ _ 8 _ hd rfl, List.take_append_of_le_length (by omega), List.take_of_length_le (by omega)]
  have x3 : s.extract (a + (2 + (numS body.size).length)) (a + (2 + (numS body.size).length + body.size)) = body := by
    apply bytesOf_inj
    have hd : (bytesOf s).drop (a + (2 + (numS body.size).length)) = bytesOf body ++ (eightS (sumS (231 :: v :: (numS body.size ++ bytesOf body))) ++ r) := by
      rw [← List.drop_drop, h, hL, show 231 :: v :: (numS body.size ++ (bytesOf body ++ (eightS (sumS (231 :: v :: (numS body.size ++ bytesOf body))) ++ r))) = (231 :: v :: numS body.size) ++ (bytesOf body ++ (eightS (sumS (231 :: v :: (numS body.size ++ bytesOf body))) ++ r)) from rfl,
        List.drop_append_of_le_length (by simp; omega), List.drop_of_length_le (by simp; omega)]
      rfl
    rw [ext_bytes s _ _ body.size _ hd (by omega), List.take_append_of_le_length (by rw [size_bytesOf]; omega), List.take_of_length_le (by rw [size_bytesOf]; omega)]
  unfold OP
  rw [if_neg (by omega), if_neg (by omega), h0, if_pos rfl, if_neg (by omega), h1, if_pos rfl, hT]
  simp only
  rw [if_pos trivial, if_neg (by omega), if_neg (by omega)]
  have n1 : ((a : Int) + 2 + ((numS body.size).length : Int) + (body.size : Int)).toNat = a + (2 + (numS body.size).length + body.size) := by omega
  have n2 : ((a : Int) + 2 + ((numS body.size).length : Int) + (body.size : Int) + 8).toNat = a + (2 + (numS body.size).length + body.size) + 8 := by omega
  have n3 : ((a : Int) + 2 + ((numS body.size).length : Int)).toNat = a + (2 + (numS body.size).length) := by omega
  rw [n1, n2, n3, Int.toNat_natCast, x1, x3]
  rw [if_pos (bytesOf_inj (by rw [eightB_bytes, x2]))]
  rw [hfl]
  simp only [Prod.mk.injEq, true_and, and_true]
  omega
/-- A beginning of a frame, but not all of it. -/
theorem op_short (s : ByteArray) (a : Nat) (ha : a ≤ s.size) (v : Int) (hv : VOK v) (body : ByteArray) (hb : body.size ≤ 30000) (q t : List Int) (h : (bytesOf s).drop a = q) (hq : q ++ t = frB v body) (ht : t ≠ []) :
    OP s (a : Int) v = (E0, 0, 10) := by
  have hfl := frB_len v body
  have hs : q.length = s.size - a := by rw [← h, List.length_drop, size_bytesOf]
  have hql : q.length < (frB v body).length := by
    rw [← hq, List.length_append]
    have := List.length_pos_iff.2 ht
    omega
  have hv0 := hv.1
  have hv1 := hv.2
  unfold OP
  rw [if_neg (by omega)]
  rcases q with _ | ⟨q0, q⟩
  · rw [if_pos (by simp at hs; omega)]
  have hF : frB v body = 231 :: v :: (numS body.size ++ (bytesOf body ++ eightS (sumS (231 :: v :: (numS body.size ++ bytesOf body))))) := by
    unfold frB
    simp
  rw [hF] at hq
  have hq0 : q0 = 231 := by
    have := congrArg List.head? hq
    simpa using this
  subst hq0
  have h0 : bt s (a : Int) = 231 := by
    have := bt_drop s a _ h 0 (by simp)
    rw [show ((a : Int) + ((0 : Nat) : Int)) = (a : Int) by omega] at this
    exact this
  simp only [List.length_cons] at hs
  rw [if_neg (by omega), h0, if_pos rfl]
  rcases q with _ | ⟨q1, q⟩
  · simp at hs
    rw [if_pos (by omega)]
  simp only [List.length_cons] at hs
  have hq1 : q1 = v := by
    have := congrArg (fun l : List Int => l[1]?) hq
    simpa using this
  subst hq1
  have h1 : bt s ((a : Int) + 1) = q1 := by
    have := bt_drop s a _ h 1 (by simp)
    rw [show ((a : Int) + ((1 : Nat) : Int)) = (a : Int) + 1 by omega] at this
    exact this
  rw [if_neg (by omega), h1, if_pos rfl]
  have hT := tn_drop s a _ h (by simp)
  have hd2 : (231 :: q1 :: q : List Int).drop 2 = q := rfl
  rw [hd2] at hT
  have hq2 : q ++ t = numS body.size ++ (bytesOf body ++ eightS (sumS (231 :: q1 :: (numS body.size ++ bytesOf body)))) := by simpa using hq
  have h10 := numS_ten body.size (by omega)
  by_cases c : q.length < (numS body.size).length
  · have e : numS body.size = q ++ (numS body.size).drop q.length := by
      have e1 := congrArg (List.take q.length) hq2
      rw [List.take_append_of_le_length (Nat.le_refl _), List.take_length, List.take_append_of_le_length (by omega)] at e1
      conv => lhs; rw [← List.take_append_drop q.length (numS body.size)]
      rw [← e1]
    rw [tnS_short (numS body.size) q (canon_numS _) h10 _ (by
      intro e2
      have := congrArg List.length e2
      simp at this
      omega) e] at hT
    rw [hT]
    simp
  · have e : q = numS body.size ++ q.drop (numS body.size).length := by
      have e1 := congrArg (List.take (numS body.size).length) hq2
      rw [List.take_append_of_le_length (by omega), List.take_append_of_le_length (Nat.le_refl _), List.take_length] at e1
      conv => lhs; rw [← List.take_append_drop (numS body.size).length q]
      rw [e1]
    rw [e, tnS_canon _ _ (canon_numS body.size) (by rw [valS_numS]; omega), valS_numS] at hT
    simp only [if_pos] at hT
    rw [hT]
    simp only
    rw [if_pos trivial, if_neg (by omega), if_pos]
    have hlen := congrArg List.length hq2
    have := List.length_pos_iff.2 ht
    have e8 : (eightS (sumS (231 :: q1 :: (numS body.size ++ bytesOf body)))).length = 8 := rfl
    simp only [List.length_append, size_bytesOf, e8] at hlen
    omega
/-- What Open tells stood there. -/
theorem op_ok (s : ByteArray) (a v : Int) (b : ByteArray) (q : Int) (h : OP s a v = (b, q, 0)) :
    VOK v ∧ 0 ≤ a ∧ b.size ≤ 30000 ∧ (bytesOf s).drop a.toNat = frB v b ++ (bytesOf s).drop q.toNat ∧ q = a + (frB v b).length ∧ q ≤ (s.size : Int) := by
  unfold OP at h
  by_cases c0 : a < 0 ∨ a > (s.size : Int) ∨ v < 0 ∨ v > 255
  · rw [if_pos c0] at h
    simp at h
  rw [if_neg c0] at h
  obtain ⟨a, rfl⟩ : ∃ n : Nat, a = (n : Int) := ⟨a.toNat, by omega⟩
  rw [Int.toNat_natCast] at h ⊢
  by_cases c1 : (a : Int) = (s.size : Int)
  · rw [if_pos c1] at h
    simp at h
  rw [if_neg c1] at h
  by_cases c2 : bt s (a : Int) = 231
  rotate_left
  · rw [if_neg c2] at h
    simp at h
  rw [if_pos c2] at h
  by_cases c3 : (a : Int) + 1 = (s.size : Int)
  · rw [if_pos c3] at h
    simp at h
  rw [if_neg c3] at h
  by_cases c4 : bt s ((a : Int) + 1) = v
  rotate_left
  · rw [if_neg c4] at h
    simp at h
  rw [if_pos c4] at h
  obtain ⟨l, hl⟩ : ∃ l, (bytesOf s).drop a = l := ⟨_, rfl⟩
  have hs : l.length = s.size - a := by rw [← hl, List.length_drop, size_bytesOf]
  have hT := tn_drop s a l hl (by omega)
  rw [hT] at h
  simp only at h
  by_cases c5 : (tnS (l.drop 2) 0 0).2.2 = 0
  rotate_left
  · rw [if_neg c5] at h
    simp only [Prod.mk.injEq] at h
    exact absurd h.2.2 c5
  rw [if_pos c5, if_pos c5] at h
  have hbl : ∀ x ∈ l.drop 2, Byte x := fun x hx => bytesOf_byte s x (List.mem_of_mem_drop (by rw [hl]; exact List.mem_of_mem_drop hx))
  obtain ⟨m, r, em, hm, hm10, et, hval⟩ := tnS_ok (l.drop 2) hbl c5
  rw [et] at h
  simp only at h
  by_cases c6 : valS m > 30000
  · rw [if_pos c6] at h
    simp at h
  rw [if_neg c6] at h
  by_cases c7 : valS m + 8 > (s.size : Int) - ((a : Int) + 2 + (m.length : Int))
  · rw [if_pos c7] at h
    simp at h
  rw [if_neg c7] at h
  obtain ⟨n, hn⟩ : ∃ n : Nat, valS m = (n : Int) := ⟨(valS m).toNat, by have := valS_nonneg m; omega⟩
  have hmn : m = numS n := by rw [← canon_val m hm, hn, Int.toNat_natCast]
  rw [hn] at h c6 c7
  have n1 : ((a : Int) + 2 + (m.length : Int) + (n : Int)).toNat = a + (2 + m.length + n) := by omega
  have n2 : ((a : Int) + 2 + (m.length : Int) + (n : Int) + 8).toNat = a + (2 + m.length + n) + 8 := by omega
  have n3 : ((a : Int) + 2 + (m.length : Int)).toNat = a + (2 + m.length) := by omega
  rw [n1, n2, n3] at h
  -- the bytes
  have l0 : l[0]'(by omega) = 231 := by
    have := bt_drop s a l hl 0 (by omega)
    rw [show ((a : Int) + ((0 : Nat) : Int)) = (a : Int) by omega, c2] at this
    exact this.symm
  have l1 : l[1]'(by omega) = v := by
    have := bt_drop s a l hl 1 (by omega)
    rw [show ((a : Int) + ((1 : Nat) : Int)) = (a : Int) + 1 by omega, c4] at this
    exact this.symm
  have hl2 : l = 231 :: v :: (m ++ r) := by
    rw [← em]
    rcases l with _ | ⟨x, _ | ⟨y, l⟩⟩
    · simp at hs; omega
    · simp at hs; omega
    · simp at l0 l1
      rw [l0, l1]
      rfl
  have hrl : r.length = s.size - a - 2 - m.length := by
    have := congrArg List.length hl2
    simp at this
    omega
  by_cases c8 : eightB (sumS (bytesOf (s.extract a (a + (2 + m.length + n))))) = s.extract (a + (2 + m.length + n)) (a + (2 + m.length + n) + 8)
  rotate_left
  · rw [if_neg c8] at h
    simp at h
  rw [if_pos c8] at h
  simp only [Prod.mk.injEq, and_true] at h
  obtain ⟨hb, hq⟩ := h
  have hbb : bytesOf b = r.take n := by
    rw [← hb]
    have hd : (bytesOf s).drop (a + (2 + m.length)) = r := by
      rw [← List.drop_drop, hl, hl2, show 231 :: v :: (m ++ r) = (231 :: v :: m) ++ r from rfl, List.drop_append_of_le_length (by simp; omega), List.drop_of_length_le (by simp; omega)]
      rfl
    exact ext_bytes s _ _ n _ hd (by omega)
  have hbs : b.size = n := by rw [← size_bytesOf, hbb, List.length_take]; omega
  have x1 : bytesOf (s.extract a (a + (2 + m.length + n))) = 231 :: v :: (m ++ r.take n) := by
    rw [ext_bytes s a _ _ l hl rfl, hl2, show 2 + m.length + n = (m.length + n) + 1 + 1 by omega, List.take_succ_cons, List.take_succ_cons, List.take_append, List.take_of_length_le (by omega), Nat.add_sub_cancel_left]
  have x2 : bytesOf (s.extract (a + (2 + m.length + n)) (a + (2 + m.length + n) + 8)) = (r.drop n).take 8 := by
    have hd : (bytesOf s).drop (a + (2 + m.length + n)) = r.drop n := by
      rw [← List.drop_drop, hl, hl2, show 2 + m.length + n = (m.length + n) + 1 + 1 by omega, List.drop_succ_cons, List.drop_succ_cons, List.drop_append, List.drop_of_length_le (by omega), Nat.add_sub_cancel_left]
      rfl
    exact ext_bytes s _ _ 8 _ hd rfl
  have x3 := congrArg bytesOf c8
  rw [eightB_bytes, x1, x2] at x3
  have hfr : frB v b = 231 :: v :: (m ++ r.take n) ++ (r.drop n).take 8 := by
    unfold frB
    rw [hbs, ← hmn, hbb, x3]
  have hlen := frB_len v b
  rw [hbs, ← hmn] at hlen
  refine ⟨⟨by omega, by omega⟩, by omega, by omega, ?_, ?_, by omega⟩
  · have hqn : q.toNat = a + (2 + m.length + n + 8) := by omega
    rw [hqn, ← List.drop_drop, hl, hfr]
    conv => lhs; rw [hl2]
    rw [hl2, show 2 + m.length + n + 8 = (m.length + (n + 8)) + 1 + 1 by omega, List.drop_succ_cons, List.drop_succ_cons, List.drop_append, List.drop_of_length_le (by omega : m.length ≤ m.length + (n + 8)), Nat.add_sub_cancel_left, List.nil_append]
    have e1 : r = r.take n ++ ((r.drop n).take 8 ++ r.drop (n + 8)) := by
      rw [← List.drop_drop, List.take_append_drop, List.take_append_drop]
    conv => lhs; rw [e1]
    simp
  · rw [hlen, ← hq]
    omega
theorem op_err (s : ByteArray) (a v : Int) (ha : 0 ≤ a ∧ a ≤ (s.size : Int)) (hv : VOK v) : (OP s a v).2.2 ≠ 2 := by
  have hv0 := hv.1
  have hv1 := hv.2
  unfold OP
  rw [if_neg (by omega)]
  split
  · decide
  split
  · split
    · decide
    split
    · split
      · split
        · decide
        split
        · decide
        split
        · show (0 : Int) ≠ 2
          decide
        · decide
      · rename_i c
        have : (TN s (a + 2)).2.2 ≠ 2 := by
          rename_i c3 c4
          unfold TN
          rw [if_neg (by omega)]
          rcases tnS_err ((bytesOf s).drop (a + 2).toNat) 0 0 with h | ⟨_, _, h | h⟩ <;> simp [h]
        exact this
    · decide
  · decide
theorem seal_size (b : ByteArray) (h : (SEAL 3 b).2 = 0) : (SEAL 3 b).1.size ≤ 30020 := by
  by_cases c : VOK 3 ∧ (b.size : Int) ≤ 30000
  · rw [seal_ok 3 c.1 b c.2]
    have h1 : (FR 3 b).size = (frB 3 b).length := by rw [← size_bytesOf, fr_bytes 3 c.1]
    have h2 := frB_len 3 b
    have h3 := nm_ten (b.size : Int) (by omega)
    rw [nm_size] at h3
    rw [Int.toNat_natCast] at h3
    show (FR 3 b).size ≤ 30020
    omega
  · exact absurd h (seal_bad 3 b c)
theorem begin_ev (b : ByteArray) : Ev (fun k => segment_Begin.f k b) (SEAL 3 b) := by
  unfold segment_Begin.f
  exact Ev.bind (seal_ev 3 b) (ev_eq (Ev.now _) rfl)
theorem cut_both (s : ByteArray) (hs : s.size ≤ 1000000) (v : Int) (d : Nat) : ∀ (p : Nat) (out : List ByteArray), s.size - p ≤ d → p ≤ s.size → out.length + (s.size - p) ≤ 2000000 →
    ∃ r : List ByteArray × Int × Int, r.1.length ≤ out.length + (s.size - p) ∧ Ev (fun k => seal_Cut.l0 k s v (p : Int) out) r ∧ Ev (fun k => ententeref02_Cut.l0 k s v out (p : Int)) r := by
  induction d using Nat.strongRecOn with
  | _ d ih =>
    intro p out hd hp ho
    by_cases c : p = s.size
    · refine ⟨(out, (p : Int), 0), Nat.le_add_right _ _, ?_, ?_⟩
      · refine Ev.step (fun k => by rw [seal_Cut.l0]) ?_
        exact ev_neg (by omega) (Ev.now _)
      · refine Ev.step (fun k => by rw [ententeref02_Cut.l0]) ?_
        exact ev_neg (by omega) (Ev.now _)
    · have hO := open_ev s (by omega) (p : Int) v
      have hR := ropen_ev s (by omega) (p : Int) v
      obtain ⟨⟨b, q, e⟩, hop⟩ : ∃ t, t = OP s (p : Int) v := ⟨_, rfl⟩
      rw [← hop] at hO hR
      by_cases c2 : e = 0
      · subst c2
        obtain ⟨_, _, h3, h4, h5, h6⟩ := op_ok s (p : Int) v b q hop.symm
        obtain ⟨q, rfl⟩ : ∃ n : Nat, q = (n : Int) := ⟨q.toNat, by omega⟩
        have hfp := frB_len v b
        obtain ⟨r, i0, i1, i2⟩ := ih (s.size - q) (by omega) q (out ++ [b]) (Nat.le_refl _) (by omega) (by rw [List.length_append, List.length_singleton]; omega)
        refine ⟨r, ?_, ?_, ?_⟩
        · rw [List.length_append, List.length_singleton] at i0
          omega
        · refine Ev.step (fun k => by rw [seal_Cut.l0]) ?_
          refine ev_pos (by omega) (Ev.bind hO ?_)
          exact ev_pos rfl (ev_pos (by omega) i1)
        · refine Ev.step (fun k => by rw [ententeref02_Cut.l0]) ?_
          refine ev_pos (by omega) (Ev.bind hR ?_)
          exact ev_pos rfl (ev_pos (by omega) i2)
      · refine ⟨(out, (p : Int), e), Nat.le_add_right _ _, ?_, ?_⟩
        · refine Ev.step (fun k => by rw [seal_Cut.l0]) ?_
          refine ev_pos (by omega) (Ev.bind hO ?_)
          exact ev_neg c2 (Ev.now _)
        · refine Ev.step (fun k => by rw [ententeref02_Cut.l0]) ?_
          refine ev_pos (by omega) (Ev.bind hR ?_)
          exact ev_neg c2 (Ev.now _)
theorem cut_three (s : ByteArray) (hs : s.size ≤ 1000000) : ∃ r : List ByteArray × Int × Int, r.1.length ≤ 1000000 ∧ Ev (fun k => seal_Cut.f k s 3) r ∧ Ev (fun k => ententeref02_Cut.f k s 3) r := by
  obtain ⟨r, h0, h1, h2⟩ := cut_both s hs 3 s.size 0 [] (by omega) (by omega) (by rw [List.length_nil]; omega)
  refine ⟨r, by rw [List.length_nil] at h0; omega, ?_, ?_⟩
  · unfold seal_Cut.f
    exact ev_neg (by omega) (ev_neg (by omega) h1)
  · unfold ententeref02_Cut.f
    refine ev_neg (by omega) ?_
    refine Ev.step (fun k => by rw [ententeref02_Cut.j0]) ?_
    exact ev_neg (by decide) h2
theorem rd_get (l : List Int) (i : Nat) (h : i < l.length) : rd l (i : Int) = l[i] := by
  unfold rd
  rw [Int.toNat_natCast, List.getD_eq_getElem?_getD, List.getElem?_eq_getElem h]
  rfl
theorem rev_loop (l : List Int) (hl : l.length ≤ 1000000000) (d : Nat) : ∀ (i : Nat) (x : List Int), l.length - 2 * i ≤ d → 2 * i ≤ l.length → x.length = l.length →
    (∀ j, j < l.length → x[j]? = if j < i ∨ l.length - i ≤ j then l[l.length - 1 - j]? else l[j]?) → Ev (fun k => slices_Reverse_int_int.l0 k x (i : Int) ((l.length : Int) - 1 - (i : Int))) l.reverse := by
  induction d using Nat.strongRecOn with
  | _ d ih =>
    intro i x hd h2 hx hc
    by_cases c : i < l.length - 1 - i
    · have e1 : wrap64 ((i : Int) + 1) = ((i + 1 : Nat) : Int) := by unfold wrap64; omega
      have e2 : wrap64 ((l.length : Int) - 1 - (i : Int) - 1) = (l.length : Int) - 1 - ((i + 1 : Nat) : Int) := by rw [wr _ (by omega)]; omega
      have e3 : (l.length : Int) - 1 - (i : Int) = ((l.length - 1 - i : Nat) : Int) := by omega
      have g1 := hc i (by omega)
      have g2 := hc (l.length - 1 - i) (by omega)
      rw [if_neg (by omega)] at g1 g2
      have r1 : rd x (i : Int) = l[i] := by
        rw [rd_get x i (by omega)]
        rw [List.getElem?_eq_getElem (by omega), List.getElem?_eq_getElem (by omega)] at g1
        exact Option.some.inj g1
      have r2 : rd x ((l.length : Int) - 1 - (i : Int)) = l[l.length - 1 - i] := by
        rw [e3, rd_get x _ (by omega)]
        rw [List.getElem?_eq_getElem (by omega), List.getElem?_eq_getElem (by omega)] at g2
        exact Option.some.inj g2
      refine Ev.step (fun k => by rw [slices_Reverse_int_int.l0]) ?_
      refine ev_pos (by omega) (ev_pos (by omega) (ev_pos (by omega) (ev_pos (by omega) (ev_pos (by omega) ?_))))
      rw [e1, e2, r1, r2]
      rw [e3, Int.toNat_natCast, Int.toNat_natCast]
      refine ih (l.length - 2 * (i + 1)) (by omega) (i + 1) _ (Nat.le_refl _) (by omega) (by simpa using hx) (fun j hj => ?_)
      rw [List.getElem?_set, List.getElem?_set]
      by_cases k1 : l.length - 1 - i = j
      · rw [if_pos k1, if_pos (by simp; omega), if_pos (by omega), List.getElem?_eq_getElem (by omega)]
        congr 2
        omega
      · rw [if_neg k1]
        by_cases k2 : i = j
        · rw [if_pos k2, if_pos (by omega), if_pos (by omega), List.getElem?_eq_getElem (by omega)]
          congr 2
          omega
        · rw [if_neg k2, hc j hj]
          by_cases k3 : j < i ∨ l.length - i ≤ j
          · rw [if_pos k3, if_pos (by omega)]
          · rw [if_neg k3, if_neg (by omega)]
    · refine Ev.step (fun k => by rw [slices_Reverse_int_int.l0]) ?_
      refine ev_neg (by omega) (ev_eq (Ev.now _) ?_)
      apply List.ext_getElem?
      intro j
      by_cases hj : j < l.length
      · rw [hc j hj, List.getElem?_reverse hj]
        by_cases k3 : j < i ∨ l.length - i ≤ j
        · rw [if_pos k3]
        · rw [if_neg k3]
          congr 1
          omega
      · rw [List.getElem?_eq_none (by omega), List.getElem?_eq_none (by rw [List.length_reverse]; omega)]
theorem rev_ev (l : List Int) (hl : l.length ≤ 1000000000) : Ev (fun k => slices_Reverse_int_int.f k l) l.reverse := by
  have := rev_loop l hl l.length 0 l (by omega) (by omega) rfl (fun j hj => by rw [if_neg (by omega)])
  unfold slices_Reverse_int_int.f
  rw [show wrap64 ((l.length : Int) - 1) = (l.length : Int) - 1 - ((0 : Nat) : Int) by rw [wr _ (by omega)]; omega]
  exact this
theorem rd46 (l : List S24) (i : Nat) (h : i < l.length) : rd_T24 l (i : Int) = l[i] := by
  unfold rd_T24
  rw [Int.toNat_natCast, List.getD_eq_getElem?_getD, List.getElem?_eq_getElem h]
  rfl
theorem drop46 (l : List S24) (i : Nat) (h : i < l.length) : l.drop i = rd_T24 l (i : Int) :: l.drop (i + 1) := by
  rw [List.drop_eq_getElem_cons h, rd46 l i h]
/-! the files -/
def OE (f : S24) : Int := (OP f.f1 0 3).2.2
/-- What the newest whole file answers; C: what Cut says of a file. -/
def LS (C : S24 → List ByteArray × Int × Int) (l : List S24) : Nat → Int × Int × List ByteArray × List Int × Int
  | 0 => (-1, 0, [], l.map S24.f0, 0)
  | n + 1 => if OE (rd_T24 l (n : Int)) = 10 then LS C l n
    else if OE (rd_T24 l (n : Int)) ≠ 0 ∨ (C (rd_T24 l (n : Int))).2.2 ≠ 0 ∧ (C (rd_T24 l (n : Int))).2.2 ≠ 10 then (0, 0, [], [], 170)
    else ((rd_T24 l (n : Int)).f0, (C (rd_T24 l (n : Int))).2.1, (C (rd_T24 l (n : Int))).1, (l.take n ++ l.drop (n + 1)).map S24.f0, 0)
theorem go_met (k0 : List S24) (hz : ∀ f ∈ k0, f.f1.size ≤ 1000000) : ∀ (num good : Int) (bodies : List ByteArray) (drop : List Int), drop.length + k0.length ≤ 1000000 →
    Ev (fun k => segment_Look.go k k0 num good bodies drop true) (num, good, bodies, drop ++ k0.map S24.f0, 0) := by
  induction k0 with
  | nil =>
    intro num good bodies drop hd
    simp only [segment_Look.go, List.map_nil, List.append_nil]
    exact Ev.now _
  | cons f r ih =>
    intro num good bodies drop hd
    rw [List.length_cons] at hd
    have := ih (fun x hx => hz x (List.mem_cons_of_mem _ hx)) num good bodies (drop ++ [f.f0]) (by rw [List.length_append, List.length_singleton]; omega)
    rw [List.append_assoc, List.singleton_append] at this
    simp only [segment_Look.go]
    refine Ev.bind (a := (num, good, bodies, drop ++ [f.f0], true, 0)) ?_ ?_
    · unfold segment_Look.step
      refine Ev.bind (open_ev f.f1 (by have := hz f List.mem_cons_self; omega) 0 3) ?_
      exact ev_pos (.inr rfl) (ev_pos (by omega) (Ev.now _))
    · exact ev_pos rfl this
theorem go_ev (C : S24 → List ByteArray × Int × Int) (l : List S24) (hl : l.length ≤ 1000000) (hz : ∀ f ∈ l, f.f1.size ≤ 1000000) (hC : ∀ f ∈ l, Ev (fun k => seal_Cut.f k f.f1 3) (C f)) (n : Nat) : n ≤ l.length → ∀ drop : List Int, drop = ((l.drop n).reverse.map S24.f0) →
    ∃ t : Int × Int × List ByteArray × List Int × Int, Ev (fun k => segment_Look.go k ((l.take n).reverse) (-1) 0 [] drop false) t ∧ t.2.2.2.1.length ≤ l.length ∧ (if t.2.2.2.2 = 0 then (t.1, t.2.1, t.2.2.1, t.2.2.2.1.reverse, 0) else (0, 0, [], [], t.2.2.2.2)) = LS C l n := by
  induction n with
  | zero =>
    intro hn drop hd
    refine ⟨(-1, 0, [], drop, 0), ?_, ?_, ?_⟩
    · simp only [List.take_zero, List.reverse_nil, segment_Look.go]
      exact Ev.now _
    · rw [hd]; simp
    · rw [if_pos rfl, hd]
      simp only [LS, List.drop_zero]
      rw [← List.map_reverse, List.reverse_reverse]
  | succ n ih =>
    intro hn drop hd
    have hm : rd_T24 l (n : Int) ∈ l := by rw [rd46 l n (by omega)]; exact List.getElem_mem _
    have hs := hz _ hm
    have hcf := hC _ hm
    have e0 : (l.take (n + 1)).reverse = rd_T24 l (n : Int) :: (l.take n).reverse := by
      rw [List.take_add_one, List.getElem?_eq_getElem (by omega), Option.toList_some, List.reverse_append, List.reverse_singleton, List.singleton_append, rd46 l n (by omega)]
    have e1 : drop ++ [(rd_T24 l (n : Int)).f0] = (l.drop n).reverse.map S24.f0 := by
      rw [hd, drop46 l n (by omega), List.reverse_cons, List.map_append, List.map_singleton]
    have hdl : drop.length ≤ l.length := by rw [hd]; simp
    rw [e0]
    simp only [segment_Look.go]
    by_cases c1 : OE (rd_T24 l (n : Int)) = 10
    · obtain ⟨t, h1, h2, h3⟩ := ih (by omega) _ e1
      refine ⟨t, ?_, h2, ?_⟩
      · refine Ev.bind (a := (-1, 0, [], drop ++ [(rd_T24 l (n : Int)).f0], false, 0)) ?_ (ev_pos rfl h1)
        unfold segment_Look.step
        refine Ev.bind (open_ev _ (by omega) 0 3) ?_
        exact ev_pos (.inl c1) (ev_pos (by omega) (Ev.now _))
      · rw [h3]
        simp only [LS]
        rw [if_pos c1]
    · by_cases c2 : OE (rd_T24 l (n : Int)) ≠ 0 ∨ (C (rd_T24 l (n : Int))).2.2 ≠ 0 ∧ (C (rd_T24 l (n : Int))).2.2 ≠ 10
      · refine ⟨(-1, 0, [], drop, 170), ?_, hdl, ?_⟩
        · refine Ev.bind (a := (-1, 0, [], drop, false, 170)) ?_ (ev_neg (by dsimp only; omega) (Ev.now _))
          unfold segment_Look.step
          refine Ev.bind (open_ev _ (by omega) 0 3) ?_
          refine ev_neg (by intro h; rcases h with h | h; exact c1 h; cases h) (Ev.bind hcf ?_)
          exact ev_pos c2 (Ev.now _)
        · rw [if_neg (by dsimp only; omega)]
          simp only [LS]
          rw [if_neg c1, if_pos c2]
      · have hr := go_met ((l.take n).reverse) (fun x hx => hz x (List.mem_of_mem_take (List.mem_reverse.1 hx))) (rd_T24 l (n : Int)).f0 (C (rd_T24 l (n : Int))).2.1 (C (rd_T24 l (n : Int))).1 drop (by rw [hd]; simp; omega)
        refine ⟨_, Ev.bind (a := ((rd_T24 l (n : Int)).f0, (C (rd_T24 l (n : Int))).2.1, (C (rd_T24 l (n : Int))).1, drop, true, 0)) ?_ (ev_pos rfl hr), ?_, ?_⟩
        · unfold segment_Look.step
          refine Ev.bind (open_ev _ (by omega) 0 3) ?_
          refine ev_neg (by intro h; rcases h with h | h; exact c1 h; cases h) (Ev.bind hcf ?_)
          exact ev_neg c2 (Ev.now _)
        · rw [hd]; simp; omega
        · rw [if_pos rfl]
          simp only [LS]
          rw [if_neg c1, if_neg c2, hd, ← List.map_append, ← List.map_reverse, List.reverse_append, List.reverse_reverse, List.reverse_reverse]
theorem look_ev (C : S24 → List ByteArray × Int × Int) (l : List S24) (hl : l.length ≤ 1000000) (hz : ∀ f ∈ l, f.f1.size ≤ 1000000) (hC : ∀ f ∈ l, Ev (fun k => seal_Cut.f k f.f1 3) (C f)) :
    Ev (fun k => segment_Look.f k l) (if segment_Look.sorted l = true then LS C l l.length else (0, 0, [], [], 2)) := by
  unfold segment_Look.f
  by_cases c : segment_Look.sorted l = true
  · rw [if_pos c]
    refine ev_pos c ?_
    obtain ⟨t, h1, h2, h3⟩ := go_ev C l hl hz hC l.length (Nat.le_refl _) [] (by simp)
    rw [List.take_length] at h1
    refine Ev.bind h1 ?_
    by_cases c2 : t.2.2.2.2 = 0
    · rw [if_pos c2] at h3
      refine ev_pos c2 (Ev.bind (rev_ev _ (by omega)) ?_)
      exact ev_eq (Ev.now _) h3
    · rw [if_neg c2] at h3
      exact ev_neg c2 (ev_eq (Ev.now _) h3)
  · rw [if_neg c]
    exact ev_neg c (Ev.now _)
/-- What small counts. -/
def sm16 : List S24 → Int
  | [] => 0
  | f :: l => 20 + mn (f.f1.size : Int) 100000 + sm16 l
theorem sm16_pos (l : List S24) : 0 ≤ sm16 l := by
  induction l with
  | nil => simp [sm16]
  | cons s l ih => simp only [sm16]; unfold mn; split <;> omega
def skipAt (x : Int) : Nat → List S24 → List Int
  | _, [] => []
  | i, f :: r => if (i : Int) = x then skipAt x (i + 1) r else f.f0 :: skipAt x (i + 1) r
theorem skip_none (x : Int) (l : List S24) : ∀ i : Nat, x < (i : Int) → skipAt x i l = l.map S24.f0 := by
  induction l with
  | nil => intro i _; rfl
  | cons f r ih =>
    intro i hi
    simp only [skipAt]
    rw [if_neg (by omega), ih (i + 1) (by omega), List.map_cons]
theorem skip_at (l : List S24) : ∀ (i n : Nat), n < l.length → skipAt ((i + n : Nat) : Int) i l = (l.take n ++ l.drop (n + 1)).map S24.f0 := by
  induction l with
  | nil => intro i n h; cases h
  | cons f r ih =>
    intro i n h
    simp only [skipAt]
    cases n with
    | zero =>
      rw [if_pos (by omega), skip_none _ _ _ (by omega)]
      rfl
    | succ n =>
      rw [if_neg (by omega), show ((i + (n + 1) : Nat) : Int) = ((i + 1 + n : Nat) : Int) by omega, ih (i + 1) n (by simpa using h)]
      rfl
theorem l2_loop (l : List S24) (hl : l.length ≤ 1000000) (x : Int) (num good : Int) (R : Int × Int × List ByteArray × List Int × Int) (d : Nat) : ∀ (i : Nat) (drop : List Int), i + d = l.length → drop.length + d ≤ 2000000 →
    Ev (fun k => ententeref16_Look.l2 k l x (l.length : Int) num good (drop ++ skipAt x i (l.drop i))) R → Ev (fun k => ententeref16_Look.l2 k l x (i : Int) num good drop) R := by
  induction d with
  | zero =>
    intro i drop hi hd h
    rw [List.drop_eq_nil_of_le (by omega)] at h
    simp only [skipAt, List.append_nil] at h
    rw [show (i : Int) = (l.length : Int) by omega]
    exact h
  | succ d ih =>
    intro i drop hi hd h
    have e1 : wrap64 ((i : Int) + 1) = ((i + 1 : Nat) : Int) := by unfold wrap64; omega
    rw [drop46 l i (by omega)] at h
    simp only [skipAt] at h
    refine Ev.step (fun k => by rw [ententeref16_Look.l2]) ?_
    refine ev_pos (by omega) ?_
    by_cases c : (i : Int) = x
    · rw [if_pos c] at h
      refine ev_pos c ?_
      rw [e1]
      exact ih (i + 1) drop (by omega) (by omega) h
    · rw [if_neg c] at h
      refine ev_neg c (ev_pos (by omega) (ev_pos (by omega) ?_))
      rw [e1]
      refine ih (i + 1) _ (by omega) (by rw [List.length_append, List.length_singleton]; omega) ?_
      rw [List.append_assoc, List.singleton_append]
      exact h
theorem l1_loop (C : S24 → List ByteArray × Int × Int) (l : List S24) (hl : l.length ≤ 1000000) (hz : ∀ f ∈ l, f.f1.size ≤ 1000000) (hC : ∀ f ∈ l, Ev (fun k => ententeref02_Cut.f k f.f1 3) (C f)) (n : Nat) : n ≤ l.length →
    Ev (fun k => ententeref16_Look.l1 k l ((n : Int) - 1)) (LS C l n) := by
  induction n with
  | zero =>
    intro _
    refine Ev.step (fun k => by rw [ententeref16_Look.l1]) ?_
    refine ev_neg (by omega) (Ev.step (fun k => by rw [ententeref16_Look.j2]) ?_)
    refine l2_loop l hl _ _ _ _ l.length 0 [] (by omega) (by rw [List.length_nil]; omega) ?_
    rw [List.drop_zero, skip_none _ _ _ (by omega), List.nil_append]
    refine Ev.step (fun k => by rw [ententeref16_Look.l2]) ?_
    exact ev_neg (by omega) (ev_pos (by omega) (Ev.now _))
  | succ n ih =>
    intro hn
    have hm : rd_T24 l (n : Int) ∈ l := by rw [rd46 l n (by omega)]; exact List.getElem_mem _
    have hs := hz _ hm
    have hcf := hC _ hm
    have e1 : wrap64 ((n : Int) - 1) = (n : Int) - 1 := wr _ (by omega)
    rw [show (((n + 1 : Nat) : Int) - 1) = (n : Int) by omega]
    refine Ev.step (fun k => by rw [ententeref16_Look.l1]) ?_
    refine ev_pos (by omega) (ev_pos (by omega) (ev_pos (by omega) (Ev.bind (ropen_ev _ (by omega) 0 3) ?_)))
    by_cases c0 : OE (rd_T24 l (n : Int)) = 0
    · refine ev_pos c0 (Ev.step (fun k => by rw [ententeref16_Look.j2]) ?_)
      refine l2_loop l hl _ _ _ _ l.length 0 [] (by omega) (by rw [List.length_nil]; omega) ?_
      rw [List.drop_zero, show ((n : Nat) : Int) = ((0 + n : Nat) : Int) by omega, skip_at l 0 n (by omega), List.nil_append, show ((0 + n : Nat) : Int) = ((n : Nat) : Int) by omega]
      refine Ev.step (fun k => by rw [ententeref16_Look.l2]) ?_
      refine ev_neg (by omega) (ev_neg (by omega) (ev_pos (by omega) (ev_pos (by omega) (Ev.bind hcf ?_))))
      simp only [LS]
      rw [if_neg (show ¬ OE (rd_T24 l (n : Int)) = 10 by omega)]
      by_cases c1 : (C (rd_T24 l (n : Int))).2.2 = 0
      · rw [if_neg (show ¬ (OE (rd_T24 l (n : Int)) ≠ 0 ∨ (C (rd_T24 l (n : Int))).2.2 ≠ 0 ∧ (C (rd_T24 l (n : Int))).2.2 ≠ 10) by omega)]
        exact ev_pos c1 (Ev.now _)
      · by_cases c2 : (C (rd_T24 l (n : Int))).2.2 = 10
        · rw [if_neg (show ¬ (OE (rd_T24 l (n : Int)) ≠ 0 ∨ (C (rd_T24 l (n : Int))).2.2 ≠ 0 ∧ (C (rd_T24 l (n : Int))).2.2 ≠ 10) by omega)]
          exact ev_neg c1 (ev_pos c2 (Ev.now _))
        · rw [if_pos (show OE (rd_T24 l (n : Int)) ≠ 0 ∨ (C (rd_T24 l (n : Int))).2.2 ≠ 0 ∧ (C (rd_T24 l (n : Int))).2.2 ≠ 10 by omega)]
          exact ev_neg c1 (ev_neg c2 (Ev.now _))
    · refine ev_neg c0 ?_
      by_cases c10 : OE (rd_T24 l (n : Int)) = 10
      · refine ev_pos c10 ?_
        rw [e1]
        simp only [LS]
        rw [if_pos c10]
        exact ih (by omega)
      · refine ev_neg c10 ?_
        simp only [LS]
        rw [if_neg c10, if_pos (.inl c0)]
        exact Ev.now _
theorem l0_loop (C : S24 → List ByteArray × Int × Int) (l : List S24) (hl : l.length ≤ 1000000) (hz : ∀ f ∈ l, f.f1.size ≤ 1000000) (hC : ∀ f ∈ l, Ev (fun k => ententeref02_Cut.f k f.f1 3) (C f)) (d : Nat) : ∀ i : Nat, l.length ≤ i + d →
    Ev (fun k => ententeref16_Look.l0 k l ((i : Int) + 1)) (if segment_Look.sorted (l.drop i) = true then LS C l l.length else (0, 0, [], [], 2)) := by
  have hlast : ∀ i : Nat, l.length ≤ i + 1 → Ev (fun k => ententeref16_Look.l0 k l ((i : Int) + 1)) (if segment_Look.sorted (l.drop i) = true then LS C l l.length else (0, 0, [], [], 2)) := fun i hi => by
    rw [if_pos (segment_Look.sorted_short _ (by rw [List.length_drop]; omega))]
    refine Ev.step (fun k => by rw [ententeref16_Look.l0]) ?_
    refine ev_neg (by omega) ?_
    rw [wr _ (by omega)]
    exact l1_loop C l hl hz hC l.length (Nat.le_refl _)
  induction d with
  | zero => exact fun i hi => hlast i (by omega)
  | succ d ih =>
    intro i hi
    by_cases c : i + 1 < l.length
    · have e1 : wrap64 ((i : Int) + 1 - 1) = (i : Int) := by rw [wr _ (by omega)]; omega
      have e2 : wrap64 ((i : Int) + 1 + 1) = ((i + 1 : Nat) : Int) + 1 := by rw [wr _ (by omega)]; omega
      refine Ev.step (fun k => by rw [ententeref16_Look.l0]) ?_
      rw [e1, e2]
      refine ev_pos (by omega) (ev_pos (by omega) (ev_pos (by omega) (ev_pos (by omega) ?_)))
      rw [segment_Look.sorted_two l i c]
      by_cases c2 : (rd_T24 l (i : Int)).f0 ≥ (rd_T24 l ((i : Int) + 1)).f0
      · refine ev_pos c2 ?_
        rw [show decide ((rd_T24 l (i : Int)).f0 < (rd_T24 l ((i + 1 : Nat) : Int)).f0) = false from decide_eq_false (by rw [show (((i + 1 : Nat)) : Int) = (i : Int) + 1 by omega]; omega), Bool.false_and, if_neg Bool.false_ne_true]
        exact Ev.now _
      · refine ev_neg c2 ?_
        rw [show decide ((rd_T24 l (i : Int)).f0 < (rd_T24 l ((i + 1 : Nat) : Int)).f0) = true from decide_eq_true (by rw [show (((i + 1 : Nat)) : Int) = (i : Int) + 1 by omega]; omega), Bool.true_and]
        exact ih (i + 1) (by omega)
    · exact hlast i (by omega)
theorem rlook_ev (C : S24 → List ByteArray × Int × Int) (l : List S24) (hl : l.length ≤ 1000000) (hz : ∀ f ∈ l, f.f1.size ≤ 1000000) (hC : ∀ f ∈ l, Ev (fun k => ententeref02_Cut.f k f.f1 3) (C f)) :
    Ev (fun k => ententeref16_Look.f k l) (if segment_Look.sorted l = true then LS C l l.length else (0, 0, [], [], 2)) := by
  have := l0_loop C l hl hz hC l.length 0 (by omega)
  rw [List.drop_zero] at this
  exact this
theorem ls_small (C : S24 → List ByteArray × Int × Int) (l : List S24) (hl : l.length ≤ 1000000) (hC : ∀ f ∈ l, (C f).1.length ≤ 1000000) (n : Nat) (hn : n ≤ l.length) : (LS C l n).2.2.1.length ≤ 1000000 ∧ (LS C l n).2.2.2.1.length ≤ 1000000 := by
  induction n with
  | zero => simp [LS]; omega
  | succ n ih =>
    simp only [LS]
    have hm : rd_T24 l (n : Int) ∈ l := by rw [rd46 l n (by omega)]; exact List.getElem_mem _
    split
    · exact ih (by omega)
    · split
      · simp
      · refine ⟨hC _ hm, ?_⟩
        simp
        omega

end Go.Proofs.YtkcpgaplpmbmoaaGreat.PA
