/- SealBursts: proved for all arguments; no condition. -/
import Derived.Test.YtfjemhfcdbjolaaNum
import Derived.Test.YtfjemhfcdbjolaaBursts
namespace Go.Proofs.Ytfjemhfcdbjolaa.Pure
open Go.RowKit Go.Proofs.Ytfjemhfcdbjolaa.PB Go.Proofs.YtfjemhfcdbjolaaW.PrintWords Go.Proofs.YtfjemhfcdbjolaaW.PrintLast Go.Proofs.YtfjemhfcdbjolaaW.PrintMore Go.Proofs.Ytfjemhfcdbjolaa.Num
set_option linter.unusedVariables false
set_option linter.unusedSimpArgs false

/-- A number's form. -/
def Nm (n : Int) : ByteArray := strOfNums (numS n.toNat)
theorem nm_bytes (n : Int) : bytesOf (Nm n) = numS n.toNat := bytesOf_nums _ (numS_byte _)
theorem nm_size (n : Int) : (Nm n).size = (numS n.toNat).length := by rw [← size_bytesOf, nm_bytes]
theorem nm_ten (n : Int) (h : 0 ≤ n ∧ n < 18446744073709551616) : 1 ≤ (Nm n).size ∧ (Nm n).size ≤ 10 := by
  rw [nm_size]
  exact ⟨numS_pos _, numS_ten _ (by omega)⟩
theorem number_loop (n : Nat) : ∀ acc : List Int, acc.length + (numS n).length ≤ 1000 → Ev (fun k => pack_Number.l0 k (n : Int) acc) (strOfNums (acc ++ numS n)) := by
  induction n using Nat.strongRecOn with
  | _ n ih =>
    intro acc hl
    have hp := numS_pos n
    by_cases h : n < 128
    · refine Ev.step (f := fun _ => some (strOfNums (acc ++ numS n))) (fun k => ?_) (Ev.now _)
      simp only [pack_Number.l0]
      rw [if_neg (by omega), if_pos (by omega), numS_small h]
      congr 4
      omega
    · have e := numS_big h
      rw [e, List.length_cons] at hl
      have := ih (n / 128) (by omega) (acc ++ [((n % 128 + 128 : Nat) : Int)]) (by rw [List.length_append, List.length_singleton]; omega)
      rw [e]
      rw [List.append_assoc, List.singleton_append] at this
      refine Ev.step (fun k => ?_) this
      simp only [pack_Number.l0]
      rw [if_pos (by omega), if_pos (by omega), or128 _ (by omega)]
      have q1 : (n : Int) / 128 = ((n / 128 : Nat) : Int) := by omega
      have q2 : (n : Int) % 256 % 128 + 128 = ((n % 128 + 128 : Nat) : Int) := by omega
      rw [q1, q2]
theorem number_ev (n : Int) (h : 0 ≤ n ∧ n < 18446744073709551616) : Ev (fun k => pack_Number.f k n) (Nm n) := by
  obtain ⟨m, rfl⟩ := Int.eq_ofNat_of_zero_le h.1
  have := number_loop m [] (by have := numS_ten m (by omega); simp; omega)
  rw [List.nil_append] at this
  exact this
/-- A text's form. -/
def Tx (s : ByteArray) : ByteArray := Nm (s.size : Int) ++ s
theorem size_app (s t : ByteArray) : (s ++ t).size = s.size + t.size := by
  rw [← size_bytesOf, bytesOf_append, List.length_append, size_bytesOf, size_bytesOf]
theorem tx_size (s : ByteArray) (h : s.size ≤ 140737488351232) : (Tx s).size ≤ s.size + 10 := by
  unfold Tx
  have := (nm_ten (s.size : Int) (by omega)).2
  rw [size_app]; omega
theorem text_ev (s : ByteArray) (h : s.size ≤ 140737488351232) : Ev (fun k => pack_Text.f k s) (Tx s) := by
  have hn := nm_ten (s.size : Int) (by omega)
  have hu := uw (s.size : Int) (by omega)
  unfold pack_Text.f
  rw [hu]
  refine Ev.bind (number_ev (s.size : Int) (by omega)) ?_
  refine Ev.congr (f := fun _ => some (Tx s)) (fun k => ?_) (Ev.now _)
  rw [if_pos (by omega)]
  rfl
/-- Texts, one behind the other. -/
def cat : List ByteArray → ByteArray
  | [] => ByteArray.empty
  | s :: l => s ++ cat l
theorem drop_rdOf (l : List ByteArray) (i : Nat) (h : i < l.length) : l.drop i = rdOf ByteArray.empty l (i : Int) :: l.drop (i + 1) := by
  rw [List.drop_eq_getElem_cons h]
  congr 1
  unfold rdOf
  simp [List.getD_eq_getElem?_getD, List.getElem?_eq_getElem h]
theorem app_assoc (a b c : ByteArray) : a ++ b ++ c = a ++ (b ++ c) := bytesOf_inj (by simp only [bytesOf_append, List.append_assoc])
theorem app_empty (a : ByteArray) : a ++ ByteArray.empty = a := bytesOf_inj (by simp only [bytesOf_append, bytesOf_empty, List.append_nil])
theorem rnumber_nat (n : Nat) : n < 18446744073709551616 → Ev (fun k => ententeref01_Number.f k (n : Int)) (strOfNums (numS n)) := by
  induction n using Nat.strongRecOn with
  | _ n ih =>
    intro hn
    by_cases h : n < 128
    · refine Ev.step (f := fun _ => some (strOfNums (numS n))) (fun k => ?_) (Ev.now _)
      simp only [ententeref01_Number.f]
      rw [if_pos (by omega), numS_small h]
      congr 3
      omega
    · have e := numS_big h
      have t1 : Int.tmod (n : Int) 128 = ((n % 128 : Nat) : Int) := by rw [Int.tmod_eq_emod_of_nonneg (by omega)]; omega
      have t2 : Int.tdiv (n : Int) 128 = ((n / 128 : Nat) : Int) := by rw [Int.tdiv_eq_ediv_of_nonneg (by omega)]; omega
      have u1 := uw (((n % 128 : Nat) : Int) + 128) (by omega)
      have u2 := uw (((n / 128 : Nat) : Int)) (by omega)
      have hl := numS_ten (n / 128) (by omega)
      refine Ev.step (f := fun k => (ententeref01_Number.f k ((n / 128 : Nat) : Int)).bind fun t => (if (strOfNums [((n % 128 : Nat) : Int) + 128]).size + t.size ≤ 9223372036854775807 then (some ((strOfNums [((n % 128 : Nat) : Int) + 128]) ++ t)) else (none))) (fun k => ?_) ?_
      · simp only [ententeref01_Number.f]
        rw [if_neg (by omega), t1, t2, u1, u2]
        simp only [Option.bind_some]
        rw [show (((n % 128 : Nat) : Int) + 128) % 256 = ((n % 128 : Nat) : Int) + 128 by omega]
      · refine Ev.bind (ih (n / 128) (by omega) (by omega)) ?_
        refine Ev.congr (f := fun _ => some (strOfNums (numS n))) (fun k => ?_) (Ev.now _)
        rw [if_pos (by rw [strOfNums_size, strOfNums_size]; simp; omega), e, ← Num.nums_append]
        rfl
theorem rnumber_ev (n : Int) (h : 0 ≤ n ∧ n < 18446744073709551616) : Ev (fun k => ententeref01_Number.f k n) (Nm n) := by
  obtain ⟨m, rfl⟩ := Int.eq_ofNat_of_zero_le h.1
  exact rnumber_nat m (by omega)
theorem rtext_ev (s : ByteArray) (h : s.size ≤ 140737488351232) : Ev (fun k => ententeref01_Text.f k s) (Tx s) := by
  have hn := nm_ten (s.size : Int) (by omega)
  have hu := uw (s.size : Int) (by omega)
  unfold ententeref01_Text.f
  rw [hu]
  refine Ev.bind (rnumber_ev (s.size : Int) (by omega)) ?_
  refine Ev.congr (f := fun _ => some (Tx s)) (fun k => ?_) (Ev.now _)
  rw [if_pos (by omega)]
  rfl
/-! The register, as 64 bits. -/
def I64 (x : BitVec 64) : Int := (x.toNat : Int)
def B64 (n : Int) : BitVec 64 := BitVec.ofNat 64 n.toNat
theorem i64_range (x : BitVec 64) : 0 ≤ I64 x ∧ I64 x < 18446744073709551616 := by
  have := x.isLt
  unfold I64
  omega
theorem i64_b64 (n : Int) (h : 0 ≤ n ∧ n < 18446744073709551616) : I64 (B64 n) = n := by
  unfold I64 B64
  rw [BitVec.toNat_ofNat]
  omega
theorem b64_i64 (x : BitVec 64) : B64 (I64 x) = x := by
  unfold I64 B64
  rw [Int.toNat_natCast, BitVec.ofNat_toNat]
  simp
theorem i64_inj {x y : BitVec 64} (h : I64 x = I64 y) : x = y := by rw [← b64_i64 x, h, b64_i64]
theorem ofInt_i64 (x : BitVec 64) : BitVec.ofInt 64 (I64 x) = x := by
  unfold I64
  rw [BitVec.ofInt_natCast, BitVec.ofNat_toNat]
  simp
theorem xor_is (x y : BitVec 64) : Go.bits .xor .u64 (I64 x) (I64 y) = I64 (x ^^^ y) := by
  have h : Go.bits .xor .u64 (I64 x) (I64 y) = IntKind.u64.wrap (((BitVec.ofInt 64 (I64 x) ^^^ BitVec.ofInt 64 (I64 y)).toNat : Nat) : Int) := rfl
  rw [h, ofInt_i64, ofInt_i64]
  exact uw _ (i64_range _)
theorem and_is (x y : BitVec 64) : Go.bits .and .u64 (I64 x) (I64 y) = I64 (x &&& y) := by
  have h : Go.bits .and .u64 (I64 x) (I64 y) = IntKind.u64.wrap (((BitVec.ofInt 64 (I64 x) &&& BitVec.ofInt 64 (I64 y)).toNat : Nat) : Int) := rfl
  rw [h, ofInt_i64, ofInt_i64]
  exact uw _ (i64_range _)
theorem div16_is (x : BitVec 64) : I64 x / (16 : Int) = I64 (x >>> (4 : Nat)) := by
  unfold I64
  rw [BitVec.toNat_ushiftRight, Nat.shiftRight_eq_div_pow]
  omega
theorem div2_is (x : BitVec 64) : I64 x / (2 : Int) = I64 (x >>> (1 : Nat)) := by
  unfold I64
  rw [BitVec.toNat_ushiftRight, Nat.shiftRight_eq_div_pow]
  omega
/-- The polynomial. -/
def poly : BitVec 64 := 14514072000185962306#64
/-- One bit's step. -/
def st (x : BitVec 64) : BitVec 64 := (x >>> 1) ^^^ (if x.getLsbD 0 = true then poly else 0#64)
theorem st_xor (x y : BitVec 64) : st (x ^^^ y) = st x ^^^ st y := by
  unfold st
  rw [BitVec.ushiftRight_xor_distrib, BitVec.getLsbD_xor]
  cases x.getLsbD 0 <;> cases y.getLsbD 0 <;> simp
  · rw [BitVec.xor_assoc]
  · rw [BitVec.xor_assoc, BitVec.xor_assoc, BitVec.xor_comm (y >>> 1) poly]
  · rw [BitVec.xor_assoc (x >>> 1), BitVec.xor_comm poly, BitVec.xor_assoc (y >>> 1), BitVec.xor_self, BitVec.xor_zero]
def stn : Nat → BitVec 64 → BitVec 64
  | 0, x => x
  | n + 1, x => st (stn n x)
theorem stn_xor (n : Nat) (x y : BitVec 64) : stn n (x ^^^ y) = stn n x ^^^ stn n y := by
  induction n with
  | zero => rfl
  | succ n ih => rw [stn, ih, st_xor]; rfl
theorem stn_add (m n : Nat) (x : BitVec 64) : stn m (stn n x) = stn (m + n) x := by
  induction m with
  | zero => rw [Nat.zero_add]; rfl
  | succ m ih => rw [show m + 1 + n = (m + n) + 1 by omega, stn, ih]; rfl
theorem st_even (x : BitVec 64) (h : x.getLsbD 0 = false) : st x = x >>> 1 := by
  unfold st
  rw [h]
  simp
theorem stn_shift (n : Nat) (x : BitVec 64) (h : ∀ i, i < n → x.getLsbD i = false) : stn n x = x >>> n := by
  induction n with
  | zero => simp [stn]
  | succ n ih =>
    rw [stn, ih (fun i hi => h i (by omega)), st_even]
    · rw [BitVec.shiftRight_add]
    · rw [BitVec.getLsbD_ushiftRight, Nat.add_zero]
      exact h n (by omega)
theorem low_high (x : BitVec 64) : x = (x &&& 15#64) ^^^ (x &&& ~~~15#64) := by
  ext i hi
  simp only [BitVec.getElem_xor, BitVec.getElem_and, BitVec.getElem_not]
  cases x[i] <;> cases (15#64)[i] <;> rfl
theorem high_low (x : BitVec 64) : ∀ i, i < 4 → (x &&& ~~~15#64).getLsbD i = false := by
  intro i hi
  have : (~~~15#64).getLsbD i = false := by
    match i with
    | 0 | 1 | 2 | 3 => decide
    | i + 4 => omega
  rw [BitVec.getLsbD_and, this, Bool.and_false]
theorem high_shift (x : BitVec 64) : (x &&& ~~~15#64) >>> 4 = x >>> 4 := by
  rw [BitVec.ushiftRight_and_distrib]
  have : ((~~~15#64) >>> 4 : BitVec 64) = 1152921504606846975#64 := by decide
  rw [this]
  apply BitVec.eq_of_toNat_eq
  rw [BitVec.toNat_and, BitVec.toNat_ushiftRight, Nat.shiftRight_eq_div_pow]
  have h := x.isLt
  have e : (1152921504606846975#64).toNat = 2 ^ 60 - 1 := by decide
  rw [e, Nat.and_two_pow_sub_one_eq_mod, Nat.mod_eq_of_lt (by omega)]
theorem tab_is : ∀ n : Fin 16, rd seal_tab (n.val : Int) = I64 (stn 4 (BitVec.ofNat 64 n.val)) := by decide +kernel
theorem half_is (x : BitVec 64) : seal_half (I64 x) = I64 (stn 4 x) := by
  unfold seal_half
  have e15 : (15 : Int) = I64 15#64 := rfl
  rw [e15, and_is, div16_is]
  have hlt : (x &&& 15#64).toNat < 16 := by
    rw [BitVec.toNat_and]
    have : x.toNat &&& (15#64).toNat ≤ (15#64).toNat := Nat.and_le_right
    have e : (15#64).toNat = 15 := by decide
    omega
  have h := tab_is ⟨(x &&& 15#64).toNat, hlt⟩
  have h2 : BitVec.ofNat 64 (x &&& 15#64).toNat = x &&& 15#64 := by rw [BitVec.ofNat_toNat]; simp
  rw [h2] at h
  rw [show rd seal_tab (I64 (x &&& 15#64)) = I64 (stn 4 (x &&& 15#64)) from h]
  rw [xor_is]
  congr 1
  conv => rhs; rw [low_high x]
  rw [stn_xor, stn_shift 4 _ (high_low x), high_shift, BitVec.xor_comm]
/-- One byte. -/
def inB (r : BitVec 64) (c : Int) : BitVec 64 := stn 8 (r ^^^ B64 c)
def crc (r : BitVec 64) (l : List Int) : BitVec 64 := l.foldl inB r
/-- The sum of bytes. -/
def sumS (l : List Int) : Int := I64 (~~~ crc (BitVec.allOnes 64) l)
theorem max_is : Go.IntKind.u64.max = I64 (BitVec.allOnes 64) := by decide
theorem not_is (x : BitVec 64) : Go.bits .xor .u64 Go.IntKind.u64.max (I64 x) = I64 (~~~ x) := by
  rw [max_is, xor_is, BitVec.allOnes_xor]
theorem byte_is (x : BitVec 64) (c : Int) (hc : 0 ≤ c ∧ c ≤ 255) : seal_half (seal_half (Go.bits .xor .u64 (I64 x) (IntKind.u64.wrap c))) = I64 (inB x c) := by
  have e : c = I64 (B64 c) := (i64_b64 c (by omega)).symm
  rw [uw c (by omega)]
  conv => lhs; rw [e]
  rw [xor_is, half_is, half_is, stn_add]
  rfl
theorem inner_loop (l : List ByteArray) (s : ByteArray) (hs : s.size ≤ 140737488351232) (i : Int) (res : Int) (d : Nat) : ∀ (j : Nat) (x : BitVec 64), j + d = s.size →
    Ev (fun k => seal_Sum.l0 k l (I64 (crc x ((bytesOf s).drop j))) (wrap64 (i + 1))) res → Ev (fun k => seal_Sum.l1 k l s (I64 x) i (j : Int)) res := by
  induction d with
  | zero =>
    intro j x hj h
    rw [List.drop_eq_nil_of_le (by rw [bytesOf_length]; omega)] at h
    refine Ev.step (fun k => ?_) h
    rw [seal_Sum.l1, if_neg (by omega)]
    rfl
  | succ d ih =>
    intro j x hj h
    have hd : (bytesOf s).drop j = bt s (j : Int) :: (bytesOf s).drop (j + 1) := by
      rw [List.drop_eq_getElem_cons (by rw [bytesOf_length]; omega), bt_nat s j (by omega)]
    rw [hd] at h
    refine Ev.step (fun k => ?_) (ih (j + 1) (inB x (bt s (j : Int))) (by omega) h)
    rw [seal_Sum.l1, if_pos (by omega), if_pos (by omega), byte_is x _ (bt_range s _), wr _ (by omega)]
    rfl
theorem sum_loop (l : List ByteArray) (hr : ∀ s ∈ l, s.size ≤ 140737488351232) (hl : l.length ≤ 140737488351232) (d : Nat) : ∀ (i : Nat) (x : BitVec 64), i + d = l.length →
    Ev (fun k => seal_Sum.l0 k l (I64 x) (i : Int)) (I64 (~~~ crc x (bytesOf (cat (l.drop i))))) := by
  induction d with
  | zero =>
    intro i x hi
    refine Ev.step (f := fun _ => some (I64 (~~~ crc x (bytesOf (cat (l.drop i)))))) (fun k => ?_) (Ev.now _)
    rw [seal_Sum.l0, if_neg (by omega), not_is, List.drop_eq_nil_of_le (by omega), cat, bytesOf_empty]
    rfl
  | succ d ih =>
    intro i x hi
    have hd := drop_rdOf l i (by omega)
    have hm : rdOf ByteArray.empty l (i : Int) ∈ l := List.mem_of_mem_drop (by rw [hd]; exact List.mem_cons_self ..)
    refine Ev.step (fun k => by rw [seal_Sum.l0, if_pos (by omega), if_pos (by omega)]) ?_
    refine inner_loop l (rdOf ByteArray.empty l (i : Int)) (hr _ hm) (i : Int) _ (rdOf ByteArray.empty l (i : Int)).size 0 x (by omega) ?_
    rw [List.drop_zero, hd, cat, bytesOf_append, wr _ (by omega)]
    have := ih (i + 1) (crc x (bytesOf (rdOf ByteArray.empty l (i : Int)))) (by omega)
    rw [show crc x (bytesOf (rdOf ByteArray.empty l (i : Int)) ++ bytesOf (cat (l.drop (i + 1)))) = crc (crc x (bytesOf (rdOf ByteArray.empty l (i : Int)))) (bytesOf (cat (l.drop (i + 1)))) from List.foldl_append]
    exact this
theorem sum_ev (l : List ByteArray) (hr : ∀ s ∈ l, s.size ≤ 140737488351232) (hl : l.length ≤ 140737488351232) : Ev (fun k => seal_Sum.f k l) (sumS (bytesOf (cat l))) := by
  have := sum_loop l hr hl l.length 0 (BitVec.allOnes 64) (by omega)
  rw [List.drop_zero] at this
  exact this
/-! The document's sum, bit by bit. -/
def bitN (c : Int) (b : Nat) : BitVec 64 := BitVec.ofNat 64 (c.toNat / 2 ^ b % 2)
def lowN (c : Int) (b : Nat) : BitVec 64 := BitVec.ofNat 64 (c.toNat % 2 ^ b)
theorem bits_table : ∀ (c : Fin 256) (b : Fin 8), (lowN (c.val : Int) b.val) ^^^ (bitN (c.val : Int) b.val <<< b.val) = lowN (c.val : Int) (b.val + 1) ∧ stn b.val (bitN (c.val : Int) b.val <<< b.val) = bitN (c.val : Int) b.val := by decide +kernel
theorem bits_step (c : Int) (hc : 0 ≤ c ∧ c ≤ 255) (b : Nat) (hb : b < 8) : lowN c b ^^^ (bitN c b <<< b) = lowN c (b + 1) ∧ stn b (bitN c b <<< b) = bitN c b := by
  obtain ⟨n, rfl⟩ := Int.eq_ofNat_of_zero_le hc.1
  exact bits_table ⟨n, by omega⟩ ⟨b, hb⟩
theorem feed_step (r : BitVec 64) (c : Int) (hc : 0 ≤ c ∧ c ≤ 255) (b : Nat) (hb : b < 8) : st (stn b (r ^^^ lowN c b) ^^^ bitN c b) = stn (b + 1) (r ^^^ lowN c (b + 1)) := by
  obtain ⟨h1, h2⟩ := bits_step c hc b hb
  rw [stn, ← h1, ← BitVec.xor_assoc, stn_xor b (r ^^^ lowN c b), h2]
theorem st_bit (x : BitVec 64) (b : Nat) (hb : b < 2) : st (x ^^^ BitVec.ofNat 64 b) = if x.toNat % 2 = b then x >>> 1 else (x >>> 1) ^^^ poly := by
  have hx : x.getLsbD 0 = decide (x.toNat % 2 = 1) := by
    rw [BitVec.getLsbD, Nat.testBit_zero]
  have hs : st x = if x.toNat % 2 = 1 then (x >>> 1) ^^^ poly else x >>> 1 := by
    unfold st
    rw [hx]
    by_cases g : x.toNat % 2 = 1
    · simp [g]
    · simp [g]
  rcases (show b = 0 ∨ b = 1 by omega) with rfl | rfl
  · rw [show x ^^^ BitVec.ofNat 64 0 = x by simp, hs]
    by_cases g : x.toNat % 2 = 1
    · rw [if_pos g, if_neg (by omega)]
    · rw [if_neg g, if_pos (by omega)]
  · rw [st_xor, hs, show st (BitVec.ofNat 64 1) = poly by decide]
    by_cases g : x.toNat % 2 = 1
    · rw [if_pos g, if_pos g, BitVec.xor_assoc, BitVec.xor_self, BitVec.xor_zero]
    · rw [if_neg g, if_neg g]
theorem rbits_loop (s : ByteArray) (hs : s.size ≤ 140737488351232) (i : Nat) (hi : i < s.size) (r : BitVec 64) (res : Int)
    (h : Ev (fun k => ententeref02_Sum.l0 k s (I64 (inB r (bt s (i : Int)))) (wrap64 ((i : Int) + 1))) res) (d : Nat) : ∀ b : Nat, b + d = 8 →
    Ev (fun k => ententeref02_Sum.l1 k s (I64 (stn b (r ^^^ lowN (bt s (i : Int)) b))) (i : Int) (b : Int)) res := by
  have hc := bt_range s (i : Int)
  induction d with
  | zero =>
    intro b hb
    obtain rfl : b = 8 := by omega
    have e : lowN (bt s (i : Int)) 8 = B64 (bt s (i : Int)) := by
      unfold lowN B64
      rw [Nat.mod_eq_of_lt (by omega)]
    rw [e]
    refine Ev.step (fun k => ?_) h
    rw [ententeref02_Sum.l1, if_neg (by omega)]
    rfl
  | succ d ih =>
    intro b hb
    have := ih (b + 1) (by omega)
    rw [← feed_step r _ hc b (by omega)] at this
    refine Ev.step (fun k => ?_) this
    have hshr : IntKind.u64.wrap (shr .u8 (bt s (i : Int)) (b : Int)) = ((bt s (i : Int)).toNat / 2 ^ b : Nat) := by
      have h1 : shr .u8 (bt s (i : Int)) (b : Int) = bt s (i : Int) / 2 ^ b := by
        unfold shr
        rw [Int.toNat_natCast, Nat.min_eq_left (by simp [IntKind.bits]; omega)]
      have h2 : bt s (i : Int) / 2 ^ b = ((bt s (i : Int)).toNat / 2 ^ b : Nat) := by
        have : (((bt s (i : Int)).toNat : Nat) : Int) = bt s (i : Int) := Int.toNat_of_nonneg hc.1
        conv => lhs; rw [← this]
        norm_cast
      rw [h1, h2]
      refine uw _ ⟨Int.natCast_nonneg _, ?_⟩
      have h3 : (((bt s (i : Int)).toNat / 2 ^ b : Nat) : Int) ≤ ((bt s (i : Int)).toNat : Int) := Int.ofNat_le.2 (Nat.div_le_self _ _)
      omega
    generalize hX : stn b (r ^^^ lowN (bt s (i : Int)) b) = X
    have hx := i64_range X
    have t1 : Int.tmod (I64 X) 2 = ((X.toNat % 2 : Nat) : Int) := by
      rw [Int.tmod_eq_emod_of_nonneg hx.1]
      unfold I64
      omega
    have t2 : ∀ n : Nat, Int.tmod (n : Int) 2 = ((n % 2 : Nat) : Int) := by
      intro n
      rw [Int.tmod_eq_emod_of_nonneg (by omega)]
      omega
    have t3 : IntKind.u64.wrap (Int.tdiv (I64 X) 2) = I64 (X >>> 1) := by
      rw [Int.tdiv_eq_ediv_of_nonneg hx.1, div2_is]
      exact uw _ (i64_range _)
    have hb2 : (bt s (i : Int)).toNat / 2 ^ b % 2 < 2 := Nat.mod_lt _ (by decide)
    have hst := st_bit X _ hb2
    rw [ententeref02_Sum.l1, if_pos (by omega), if_pos (by omega), if_pos (by omega), if_pos (by omega), hshr, t1, t2, t3, wr ((b : Int) + 1) (by omega)]
    show _ = ententeref02_Sum.l1 k s (I64 (st (X ^^^ BitVec.ofNat 64 ((bt s (i : Int)).toNat / 2 ^ b % 2)))) (i : Int) ((b + 1 : Nat) : Int)
    rw [hst]
    by_cases g : X.toNat % 2 = (bt s (i : Int)).toNat / 2 ^ b % 2
    · rw [if_pos (by rw [g]), if_pos g]
      rfl
    · rw [if_neg (fun h => g (by exact_mod_cast h)), if_neg g]
      have e : (14514072000185962306 : Int) = I64 poly := by decide
      rw [e, xor_is]
      rfl
theorem rsum_loop (s : ByteArray) (hs : s.size ≤ 140737488351232) (d : Nat) : ∀ (i : Nat) (r : BitVec 64), i + d = s.size →
    Ev (fun k => ententeref02_Sum.l0 k s (I64 r) (i : Int)) (I64 (~~~ crc r ((bytesOf s).drop i))) := by
  induction d with
  | zero =>
    intro i r hi
    refine Ev.step (f := fun _ => some (I64 (~~~ crc r ((bytesOf s).drop i)))) (fun k => ?_) (Ev.now _)
    rw [ententeref02_Sum.l0, if_neg (by omega), List.drop_eq_nil_of_le (by rw [bytesOf_length]; omega)]
    have hr := r.isLt
    show some (IntKind.u64.wrap (18446744073709551615 - I64 r)) = some (I64 (~~~ r))
    rw [uw _ (by unfold I64; omega)]
    unfold I64
    rw [BitVec.toNat_not]
    congr 1
    omega
  | succ d ih =>
    intro i r hi
    have hd : (bytesOf s).drop i = bt s (i : Int) :: (bytesOf s).drop (i + 1) := by
      rw [List.drop_eq_getElem_cons (by rw [bytesOf_length]; omega), bt_nat s i (by omega)]
    rw [hd]
    refine Ev.step (fun k => by rw [ententeref02_Sum.l0, if_pos (by omega)]) ?_
    have := ih (i + 1) (inB r (bt s (i : Int))) (by omega)
    have e0 : stn 0 (r ^^^ lowN (bt s (i : Int)) 0) = r := by
      show r ^^^ lowN (bt s (i : Int)) 0 = r
      unfold lowN
      rw [Nat.pow_zero, Nat.mod_one]
      simp
    have h := rbits_loop s hs i (by omega) r _ (by rw [wr _ (by omega)]; exact this) 8 0 (by omega)
    rw [e0] at h
    exact h
theorem rsum_ev (s : ByteArray) (hs : s.size ≤ 140737488351232) : Ev (fun k => ententeref02_Sum.f k s) (sumS (bytesOf s)) := by
  have := rsum_loop s hs s.size 0 (BitVec.allOnes 64) (by omega)
  rw [List.drop_zero] at this
  exact this
theorem awake_ev : Ev (fun k => ententelaw02_awake.f k) true := Ev.of ententelaw02_awake.mono (k := 60) (by decide +kernel)
theorem awake_ends : Ev (fun k => (ententelaw02_awake.f k).bind fun t => some t) true := Ev.bind (f := fun _ t => some t) awake_ev (Ev.now _)
/-- What is taken at a place: the number, the place behind, the error. -/
def TN (s : ByteArray) (at_ : Int) : Int × Int × Int :=
  if at_ < 0 ∨ at_ > (s.size : Int) then (0, 0, 2) else
    ((tnS ((bytesOf s).drop at_.toNat) 0 0).1, (if (tnS ((bytesOf s).drop at_.toNat) 0 0).2.2 = 0 then at_ + (tnS ((bytesOf s).drop at_.toNat) 0 0).2.1 else 0), (tnS ((bytesOf s).drop at_.toNat) 0 0).2.2)
def rel (a : Int) (r : Int × Int × Int) : Int × Int × Int := (r.1, (if r.2.2 = 0 then a + r.2.1 else 0), r.2.2)
theorem rel_err (a e : Int) (h : e ≠ 0) : rel a (0, 0, e) = (0, 0, e) := by unfold rel; rw [if_neg h]
theorem rel_ok (a n c : Int) : rel a (n, c, 0) = (n, a + c, 0) := by unfold rel; rw [if_pos rfl]
theorem tnS_nil (i : Nat) (n : Int) : tnS [] i n = if i < 10 then (0, 0, 10) else (0, 0, 11) := rfl
theorem tnS_cons (c : Int) (l : List Int) (i : Nat) (n : Int) : tnS (c :: l) i n = if 10 ≤ i then (0, 0, 11) else if i = 9 ∧ c > 1 then (0, 0, 11) else if c ≥ 128 then tnS l (i + 1) (n + c % 128 * 128 ^ i) else if c = 0 ∧ i > 0 then (0, 0, 11) else (n + c * 128 ^ i, i + 1, 0) := rfl
theorem pow7 (i : Nat) : (2 : Int) ^ (7 * i) = 128 ^ i := by rw [Int.pow_mul]; rfl
theorem pow7n (i : Nat) : (2 : Nat) ^ (7 * i) = 128 ^ i := by rw [Nat.pow_mul]
theorem pow_le (i : Nat) (h : i ≤ 9) : (128 : Nat) ^ i ≤ 9223372036854775808 := by
  have := Nat.pow_le_pow_right (show 0 < 128 by decide) h
  have e : (128 : Nat) ^ 9 = 9223372036854775808 := by decide
  omega
/-- Seven bits more. -/
theorem or_more (n c : Int) (i : Nat) (hi : i ≤ 9) (hn : 0 ≤ n ∧ n < 128 ^ i) (hc : 0 ≤ c ∧ c < 256) (h9 : i = 9 → c ≤ 1) :
    Go.bits .or .u64 n (shl .u64 (IntKind.u64.wrap (Go.bits .and .u8 c 127)) (IntKind.u64.wrap (wrap64 (7 * (i : Int))))) = n + c % 128 * 128 ^ i := by
  rw [and127 c hc, uw (c % 128) (by omega), wr (7 * (i : Int)) (by omega), uw (7 * (i : Int)) (by omega)]
  unfold shl
  have e1 : min (7 * (i : Int)).toNat IntKind.u64.bits = 7 * i := by simp [IntKind.bits]; omega
  rw [e1, pow7]
  obtain ⟨m, rfl⟩ := Int.eq_ofNat_of_zero_le hn.1
  obtain ⟨d, hd⟩ := Int.eq_ofNat_of_zero_le (show 0 ≤ c % 128 by omega)
  rw [hd]
  have hp := pow_le i hi
  have hm : m < 128 ^ i := by
    have := hn.2
    have q : ((128 ^ i : Nat) : Int) = (128 : Int) ^ i := by simp
    omega
  have hq : ((d * 128 ^ i : Nat) : Int) = (d : Int) * 128 ^ i := by simp
  have hy : d * 128 ^ i < 18446744073709551616 := by
    by_cases h : i = 9
    · have := h9 h
      have hd1 : d ≤ 1 := by omega
      have : d * 128 ^ i ≤ 1 * 128 ^ i := Nat.mul_le_mul_right _ hd1
      omega
    · have h8 : (128 : Nat) ^ i ≤ 128 ^ 8 := Nat.pow_le_pow_right (by decide) (by omega)
      have e8 : (128 : Nat) ^ 8 = 72057594037927936 := by decide
      have : d * 128 ^ i ≤ 127 * 72057594037927936 := Nat.mul_le_mul (by omega) (by omega)
      omega
  rw [← hq, uw _ (by omega)]
  exact or_join m (d * 128 ^ i) (7 * i) (by rw [pow7n]; exact hm) (by rw [pow7n]; exact Nat.mul_mod_left _ _) (by omega) (by omega)
theorem rd_drop_bt (s : ByteArray) (a : Nat) (h : a < s.size) : (bytesOf s).drop a = bt s (a : Int) :: (bytesOf s).drop (a + 1) := by
  rw [drop_cons _ a (by rw [bytesOf_length]; exact h), rd_bytesOf]
theorem take_loop (s : ByteArray) (hs : s.size ≤ 140737488351232) (a d : Nat) : ∀ (i : Nat) (n : Int), i + d = 10 → a + i ≤ s.size → 0 ≤ n → n < 128 ^ i →
    Ev (fun k => pack_TakeNumber.l0 k s (a : Int) n (i : Int)) (rel (a : Int) (tnS ((bytesOf s).drop (a + i)) i n)) := by
  induction d with
  | zero =>
    intro i n hi ha h0 h1
    refine Ev.step (f := fun _ => some (0, 0, 11)) (fun k => ?_) ?_
    · simp only [pack_TakeNumber.l0]
      rw [if_neg (by omega)]
    · have : rel (a : Int) (tnS ((bytesOf s).drop (a + i)) i n) = (0, 0, 11) := by
        cases (bytesOf s).drop (a + i) with
        | nil => rw [tnS_nil, if_neg (by omega), rel_err _ _ (by decide)]
        | cons c l => rw [tnS_cons, if_pos (by omega), rel_err _ _ (by decide)]
      rw [this]
      exact Ev.now _
  | succ d ih =>
    intro i n hi ha h0 h1
    have w1 : wrap64 ((a : Int) + (i : Int)) = ((a + i : Nat) : Int) := by unfold wrap64; omega
    have w2 : wrap64 ((i : Int) + 1) = ((i + 1 : Nat) : Int) := by unfold wrap64; omega
    have hz : IntKind.u64.wrap (wrap64 (7 * (i : Int))) = 7 * (i : Int) := by rw [wr _ (by omega), uw _ (by omega)]
    by_cases c0 : a + i = s.size
    · refine Ev.step (f := fun _ => some (0, 0, 10)) (fun k => ?_) ?_
      · simp only [pack_TakeNumber.l0]
        rw [if_pos (by omega), w1, if_pos (by omega)]
      · rw [List.drop_eq_nil_of_le (by rw [bytesOf_length]; omega)]
        rw [tnS_nil, if_pos (by omega), rel_err _ _ (by decide)]
        exact Ev.now _
    · have hb := bt_range s ((a + i : Nat) : Int)
      rw [rd_drop_bt s (a + i) (by omega)]
      obtain ⟨c, hc⟩ : ∃ c, bt s ((a + i : Nat) : Int) = c := ⟨_, rfl⟩
      rw [hc] at hb ⊢
      have head : ∀ k, pack_TakeNumber.l0 (k + 1) s (a : Int) n (i : Int) = pack_TakeNumber.j2 k s (a : Int) n (i : Int) c (i : Int) (decide (i = 9 ∧ c > 1)) := fun k => by
        simp only [pack_TakeNumber.l0]
        rw [if_pos (by omega), w1, if_neg (by omega), if_pos (by omega), if_pos (by omega), hc]
        by_cases h9 : i = 9
        · rw [if_pos (by omega)]
          congr 1
          simp [h9]
        · rw [if_neg (by omega)]
          congr 1
          simp [h9]
      by_cases c1 : i = 9 ∧ c > 1
      · refine ev_shift 2 (f := fun _ => some (0, 0, 11)) (fun k => ?_) ?_
        · rw [head, decide_eq_true c1, pack_TakeNumber.j2, if_pos rfl]
        · rw [tnS_cons, if_neg (by omega), if_pos c1, rel_err _ _ (by decide)]
          exact Ev.now _
      · have hm := or_more n c i (by omega) ⟨h0, h1⟩ ⟨hb.1, by omega⟩ (fun h => by omega)
        by_cases c2 : c ≥ 128
        · have hlt : n + c % 128 * 128 ^ i < 128 ^ (i + 1) := by
            have p0 : (0 : Int) ≤ 128 ^ i := by omega
            have : c % 128 * 128 ^ i ≤ 127 * 128 ^ i := Int.mul_le_mul_of_nonneg_right (by omega) p0
            rw [Int.pow_succ]
            omega
          have hge : 0 ≤ n + c % 128 * 128 ^ i := by
            have p0 : (0 : Int) ≤ 128 ^ i := by omega
            have : 0 ≤ c % 128 * 128 ^ i := Int.mul_nonneg (by omega) p0
            omega
          have := ih (i + 1) (n + c % 128 * 128 ^ i) (by omega) (by omega) hge hlt
          rw [tnS_cons, if_neg (by omega), if_neg c1, if_pos c2]
          refine ev_shift 2 (fun k => ?_) this
          rw [head, decide_eq_false c1, pack_TakeNumber.j2, if_neg (by simp), hz, if_pos (by omega), if_pos c2, ← hz, hm, w2]
        · have h128 : c % 128 = c := by omega
          rw [h128] at hm
          rw [tnS_cons, if_neg (by omega), if_neg c1, if_neg c2]
          by_cases c3 : c = 0 ∧ i > 0
          · rw [if_pos c3, rel_err _ _ (by decide)]
            refine ev_shift 2 (f := fun _ => some (0, 0, 11)) (fun k => ?_) (Ev.now _)
            rw [head, decide_eq_false c1, pack_TakeNumber.j2, if_neg (by simp), hz, if_pos (by omega), if_neg c2, if_pos c3.1, if_pos (by omega)]
          · rw [if_neg c3, rel_ok]
            have w3 : wrap64 ((wrap64 ((a : Int) + (i : Int))) + 1) = (a : Int) + ((i : Int) + 1) := by rw [w1]; unfold wrap64; omega
            refine ev_shift 2 (f := fun _ => some (n + c * 128 ^ i, (a : Int) + ((i : Int) + 1), 0)) (fun k => ?_) ?_
            · rw [head, decide_eq_false c1, pack_TakeNumber.j2, if_neg (by simp), if_pos (by rw [hz]; omega), if_neg c2, hm, w3]
              by_cases c4 : c = 0
              · rw [if_pos c4, if_neg (by omega)]
              · rw [if_neg c4]
            · exact Ev.now _
theorem take_ev (s : ByteArray) (hs : s.size ≤ 140737488351232) (a : Int) : Ev (fun k => pack_TakeNumber.f k s a) (TN s a) := by
  have bad : Ev (fun k => pack_TakeNumber.j0 k s a true) (0, 0, 2) := Ev.step (f := fun _ => some (0, 0, 2)) (fun k => by simp only [pack_TakeNumber.j0, if_true]) (Ev.now _)
  by_cases c1 : a < 0
  · have : TN s a = (0, 0, 2) := if_pos (.inl c1)
    rw [this]
    exact Ev.congr (fun k => by unfold pack_TakeNumber.f; rw [if_pos c1]) bad
  by_cases c2 : a > (s.size : Int)
  · have : TN s a = (0, 0, 2) := if_pos (.inr c2)
    rw [this]
    exact Ev.congr (fun k => by unfold pack_TakeNumber.f; rw [if_neg c1, decide_eq_true c2]) bad
  obtain ⟨m, rfl⟩ := Int.eq_ofNat_of_zero_le (show 0 ≤ a by omega)
  have : TN s (m : Int) = rel (m : Int) (tnS ((bytesOf s).drop (m + 0)) 0 0) := if_neg (by omega)
  rw [this]
  refine Ev.congr (f := fun k => pack_TakeNumber.j0 k s (m : Int) false) (fun k => by unfold pack_TakeNumber.f; rw [if_neg c1, decide_eq_false c2]) ?_
  refine Ev.step (fun k => ?_) (take_loop s hs m 10 0 0 (by omega) (by omega) (by omega) (by decide))
  simp only [pack_TakeNumber.j0, Bool.false_eq_true, if_false]
  rfl
theorem tn_facts (s : ByteArray) (hs : s.size ≤ 140737488351232) (a : Int) : (TN s a).2.2 ≠ 0 ∧ (TN s a).1 = 0 ∧ (TN s a).2.1 = 0 ∨ (TN s a).2.2 = 0 ∧ 0 ≤ (TN s a).1 ∧ (TN s a).1 < 18446744073709551616 ∧ 0 ≤ a ∧ a < (TN s a).2.1 ∧ (TN s a).2.1 ≤ (s.size : Int) := by
  by_cases c : a < 0 ∨ a > (s.size : Int)
  · have : TN s a = (0, 0, 2) := if_pos c
    rw [this]; left; simp
  · have e : TN s a = rel a (tnS ((bytesOf s).drop a.toNat) 0 0) := if_neg c
    rw [e]
    rcases tnS_err ((bytesOf s).drop a.toNat) 0 0 with h | ⟨h1, h2, h3⟩
    · right
      obtain ⟨m, r, h4, h5, h6, h7, h8⟩ := tnS_ok _ (fun x hx => bytesOf_byte s x (List.mem_of_mem_drop hx)) h
      rw [h7]
      have hl := congrArg List.length h4
      rw [List.length_drop, bytesOf_length, List.length_append] at hl
      have hp : 1 ≤ m.length := by
        match m, h5 with
        | [], h5 => exact absurd h5 (by simp [Canon])
        | x :: m, _ => simp
      have hv := valS_nonneg m
      rw [rel_ok]
      exact ⟨rfl, hv, h8, by show 0 ≤ a; omega, by show a < a + (m.length : Int); omega, by show a + (m.length : Int) ≤ _; omega⟩
    · left
      have h4 : (tnS ((bytesOf s).drop a.toNat) 0 0).2.2 ≠ 0 := by omega
      exact ⟨h4, h1, if_neg h4⟩
/-! Frames: what Seal makes, what Open tells. -/
abbrev E0 : ByteArray := ⟨#[]⟩
def eightS (n : Int) : List Int := [n % 256, n / 256 % 256, n / 65536 % 256, n / 16777216 % 256, n / 4294967296 % 256, n / 1099511627776 % 256, n / 281474976710656 % 256, n / 72057594037927936 % 256]
theorem eightS_byte (n : Int) : ∀ x ∈ eightS n, Byte x := by
  intro x hx
  unfold eightS at hx
  simp only [List.mem_cons, List.not_mem_nil, or_false] at hx
  unfold Byte
  omega
def eightB (n : Int) : ByteArray := strOfNums (eightS n)
theorem eightB_bytes (n : Int) : bytesOf (eightB n) = eightS n := bytesOf_nums _ (eightS_byte n)
theorem eightB_size (n : Int) : (eightB n).size = 8 := by rw [← size_bytesOf, eightB_bytes]; rfl
/-- A frame without its sum. -/
def hdB (v : Int) (body : ByteArray) : ByteArray := strOfNums [231, v % 256] ++ Tx body
theorem hd_two (v : Int) : bytesOf (strOfNums [231, v % 256]) = [231, v % 256] := by
  refine bytesOf_nums _ (fun x hx => ?_)
  simp only [List.mem_cons, List.not_mem_nil, or_false] at hx
  unfold Byte
  omega
theorem hd_bytes (v : Int) (body : ByteArray) : bytesOf (hdB v body) = 231 :: v % 256 :: (numS body.size ++ bytesOf body) := by
  unfold hdB Tx
  rw [bytesOf_append, bytesOf_append, hd_two, nm_bytes, Int.toNat_natCast]
  rfl
theorem two_size (v : Int) : (strOfNums [231, v % 256]).size = 2 := by rw [← size_bytesOf, hd_two]; rfl
theorem hd_size (v : Int) (body : ByteArray) (h : body.size ≤ 140737488351232) : (hdB v body).size ≤ body.size + 12 := by
  unfold hdB
  rw [size_app, two_size]
  have := tx_size body h
  omega
def SEAL (v : Int) (body : ByteArray) : ByteArray × Int :=
  if v < 0 ∨ v > 255 then (E0, 2) else if (body.size : Int) > 30000 then (E0, 3) else (hdB v body ++ eightB (sumS (bytesOf (hdB v body))), 0)
theorem cat_one (s : ByteArray) : cat [s] = s := by simp only [cat]; exact app_empty s
theorem seal_ev (v : Int) (body : ByteArray) : Ev (fun k => seal_Seal.f k v body) (SEAL v body) := by
  have bad : Ev (fun k => seal_Seal.j0 k v body true) (E0, 2) := Ev.step (f := fun _ => some (E0, 2)) (fun k => by rw [seal_Seal.j0, if_pos rfl]) (Ev.now _)
  unfold seal_Seal.f SEAL
  by_cases c1 : v < 0
  · rw [if_pos (.inl c1)]
    exact Ev.congr (fun k => if_pos c1) bad
  · refine Ev.congr (fun k => if_neg c1) ?_
    by_cases c2 : v > 255
    · rw [if_pos (.inr c2), decide_eq_true c2]
      exact bad
    · rw [if_neg (by omega), decide_eq_false c2]
      by_cases c3 : (body.size : Int) > 30000
      · rw [if_pos c3]
        exact Ev.step (f := fun _ => some (E0, 3)) (fun k => by rw [seal_Seal.j0, if_neg (by decide), if_pos c3]) (Ev.now _)
      · rw [if_neg c3]
        have ht := tx_size body (by omega)
        have h2 := two_size v
        have hh := hd_size v body (by omega)
        refine Ev.step (fun k => by rw [seal_Seal.j0, if_neg (by decide), if_neg c3]) ?_
        simp only [Option.bind_some]
        refine Ev.bind (text_ev body (by omega)) ?_
        refine Ev.congr (fun k => if_pos (by omega)) ?_
        have hs := sum_ev [hdB v body] (fun s hs => by rw [List.mem_singleton] at hs; subst hs; omega) (by simp)
        rw [cat_one] at hs
        refine Ev.bind hs ?_
        have h8 : seal_eight.f (sumS (bytesOf (hdB v body))) = some (eightB (sumS (bytesOf (hdB v body)))) := rfl
        have h9 := eightB_size (sumS (bytesOf (hdB v body)))
        have hx : (strOfNums [231, v % 256] ++ Tx body).size ≤ body.size + 12 := hh
        refine Ev.congr (f := fun _ => some (hdB v body ++ eightB (sumS (bytesOf (hdB v body))), 0)) (fun k => ?_) (Ev.now _)
        rw [h8, Option.bind_some, if_pos (by omega)]
        rfl
/-- What Open tells. -/
def OP (s : ByteArray) (a v : Int) : ByteArray × Int × Int :=
  if a < 0 ∨ a > (s.size : Int) ∨ v < 0 ∨ v > 255 then (E0, 0, 2)
  else if a = (s.size : Int) then (E0, 0, 10)
  else if bt s a = 231 then
    if a + 1 = (s.size : Int) then (E0, 0, 10)
    else if bt s (a + 1) = v then
      if (TN s (a + 2)).2.2 = 0 then
        if (TN s (a + 2)).1 > 30000 then (E0, 0, 3)
        else if (TN s (a + 2)).1 + 8 > (s.size : Int) - (TN s (a + 2)).2.1 then (E0, 0, 10)
        else if eightB (sumS (bytesOf (s.extract a.toNat ((TN s (a + 2)).2.1 + (TN s (a + 2)).1).toNat))) = s.extract ((TN s (a + 2)).2.1 + (TN s (a + 2)).1).toNat ((TN s (a + 2)).2.1 + (TN s (a + 2)).1 + 8).toNat
        then (s.extract (TN s (a + 2)).2.1.toNat ((TN s (a + 2)).2.1 + (TN s (a + 2)).1).toNat, (TN s (a + 2)).2.1 + (TN s (a + 2)).1 + 8, 0) else (E0, 0, 22)
      else (E0, 0, (TN s (a + 2)).2.2)
    else (E0, 0, 21)
  else (E0, 0, 20)
theorem extract_size (s : ByteArray) (a b : Nat) : (s.extract a b).size ≤ s.size := by
  rw [← size_bytesOf, bytesOf_extract, List.length_drop, List.length_take, size_bytesOf]
  omega
theorem open_ev (s : ByteArray) (hs : s.size ≤ 1000000000) (a v : Int) : Ev (fun k => seal_Open.f k s a v) (OP s a v) := by
  have bad : Ev (fun k => seal_Open.j0 k s a v true) (E0, 0, 2) := Ev.step (f := fun _ => some (E0, 0, 2)) (fun k => by rw [seal_Open.j0, if_pos rfl]) (Ev.now _)
  unfold seal_Open.f
  by_cases c1 : a < 0
  · rw [show OP s a v = (E0, 0, 2) from if_pos (.inl c1)]
    exact Ev.congr (fun k => if_pos c1) bad
  refine Ev.congr (fun k => if_neg c1) ?_
  by_cases c2 : a > (s.size : Int)
  · rw [show OP s a v = (E0, 0, 2) from if_pos (.inr (.inl c2))]
    exact Ev.congr (fun k => if_pos c2) bad
  refine Ev.congr (fun k => if_neg c2) ?_
  by_cases c3 : v < 0
  · rw [show OP s a v = (E0, 0, 2) from if_pos (.inr (.inr (.inl c3)))]
    exact Ev.congr (fun k => if_pos c3) bad
  refine Ev.congr (fun k => if_neg c3) ?_
  by_cases c4 : v > 255
  · rw [show OP s a v = (E0, 0, 2) from if_pos (.inr (.inr (.inr c4))), decide_eq_true c4]
    exact bad
  rw [decide_eq_false c4]
  unfold OP
  rw [if_neg (by omega)]
  refine Ev.step (fun k => by rw [seal_Open.j0, if_neg (by decide)]) ?_
  by_cases c5 : a = (s.size : Int)
  · rw [if_pos c5]
    exact Ev.congr (fun k => if_pos c5) (Ev.now _)
  rw [if_neg c5]
  refine Ev.congr (fun k => by rw [if_neg c5, if_pos (by omega), if_pos (by omega)]) ?_
  by_cases c6 : bt s a = 231
  · rw [if_pos c6]
    refine Ev.congr (fun k => if_pos c6) ?_
    have w1 : wrap64 (a + 1) = a + 1 := wr _ (by omega)
    have w2 : wrap64 (a + 2) = a + 2 := wr _ (by omega)
    rw [w1, w2]
    by_cases c7 : a + 1 = (s.size : Int)
    · rw [if_pos c7]
      exact Ev.congr (fun k => if_pos c7) (Ev.now _)
    rw [if_neg c7]
    have hb := bt_range s (a + 1)
    rw [wr (bt s (a + 1)) (by omega)]
    refine Ev.congr (fun k => by rw [if_neg c7, if_pos (by omega), if_pos (by omega)]) ?_
    by_cases c8 : bt s (a + 1) = v
    · rw [if_pos c8]
      refine Ev.congr (fun k => if_pos c8) ?_
      refine Ev.bind (take_ev s (by omega) (a + 2)) ?_
      by_cases c9 : (TN s (a + 2)).2.2 = 0
      · rw [if_pos c9]
        refine Ev.congr (fun k => if_pos c9) ?_
        have hf := tn_facts s (by omega) (a + 2)
        rcases hf with hf | ⟨_, f1, f2, f3, f4, f5⟩
        · exact absurd c9 hf.1
        by_cases c10 : (TN s (a + 2)).1 > 30000
        · rw [if_pos c10]
          exact Ev.congr (fun k => if_pos c10) (Ev.now _)
        rw [if_neg c10]
        refine Ev.congr (fun k => if_neg c10) ?_
        rw [wr (TN s (a + 2)).1 (by omega), wr ((TN s (a + 2)).1 + 8) (by omega), wr ((s.size : Int) - (TN s (a + 2)).2.1) (by omega)]
        by_cases c11 : (TN s (a + 2)).1 + 8 > (s.size : Int) - (TN s (a + 2)).2.1
        · rw [if_pos c11]
          exact Ev.congr (fun k => if_pos c11) (Ev.now _)
        rw [if_neg c11]
        rw [wr ((TN s (a + 2)).2.1 + (TN s (a + 2)).1) (by omega), wr ((TN s (a + 2)).2.1 + (TN s (a + 2)).1 + 8) (by omega)]
        refine Ev.congr (fun k => by rw [if_neg c11, if_pos (by omega), if_pos (by omega)]) ?_
        have hsz := extract_size s a.toNat ((TN s (a + 2)).2.1 + (TN s (a + 2)).1).toNat
        have hsum := sum_ev [s.extract a.toNat ((TN s (a + 2)).2.1 + (TN s (a + 2)).1).toNat] (fun t ht => by rw [List.mem_singleton] at ht; subst ht; omega) (by simp)
        rw [cat_one] at hsum
        refine Ev.bind hsum ?_
        have h8 : ∀ n, seal_eight.f n = some (eightB n) := fun _ => rfl
        simp only [h8, Option.bind_some]
        refine Ev.congr (fun k => by rw [if_pos (by omega), if_pos (by omega), if_pos (by omega)]) ?_
        by_cases c12 : eightB (sumS (bytesOf (s.extract a.toNat ((TN s (a + 2)).2.1 + (TN s (a + 2)).1).toNat))) = s.extract ((TN s (a + 2)).2.1 + (TN s (a + 2)).1).toNat ((TN s (a + 2)).2.1 + (TN s (a + 2)).1 + 8).toNat
        · rw [if_pos c12]
          exact Ev.congr (fun k => by rw [if_pos (toList_iff.2 c12), if_pos (by omega), if_pos (by omega)]) (Ev.now _)
        · rw [if_neg c12]
          exact Ev.congr (fun k => if_neg (fun h => c12 (toList_iff.1 h))) (Ev.now _)
      · rw [if_neg c9]
        exact Ev.congr (fun k => if_neg c9) (Ev.now _)
    · rw [if_neg c8]
      exact Ev.congr (fun k => if_neg c8) (Ev.now _)
  · rw [if_neg c6]
    exact Ev.congr (fun k => if_neg c6) (Ev.now _)
/-! Bits that are turned. -/
theorem st_zero (x : BitVec 64) (h : st x = 0#64) : x = 0#64 := by
  unfold st at h
  have g : ∀ j, (x >>> 1).getLsbD j = (if x.getLsbD 0 = true then poly else 0#64).getLsbD j := by
    intro j
    have := congrArg (fun y : BitVec 64 => y.getLsbD j) h
    simp only [BitVec.getLsbD_xor, BitVec.getLsbD_zero] at this
    revert this
    cases (x >>> 1).getLsbD j <;> cases (if x.getLsbD 0 = true then poly else 0#64).getLsbD j <;> simp
  have c : x.getLsbD 0 = false := by
    cases e : x.getLsbD 0 with
    | false => rfl
    | true =>
      have := g 63
      rw [e, if_pos rfl, BitVec.getLsbD_ushiftRight, BitVec.getLsbD_of_ge x (1 + 63) (by omega)] at this
      exact absurd this (by decide)
  apply BitVec.eq_of_getLsbD_eq
  intro i hi
  rw [BitVec.getLsbD_zero]
  match i with
  | 0 => exact c
  | i + 1 =>
    have := g i
    rw [c, if_neg Bool.false_ne_true, BitVec.getLsbD_ushiftRight, BitVec.getLsbD_zero, Nat.add_comm] at this
    exact this
theorem stn_zero (n : Nat) (x : BitVec 64) (h : stn n x = 0#64) : x = 0#64 := by
  induction n with
  | zero => exact h
  | succ n ih => exact ih (st_zero _ h)
theorem stn_one (j : Nat) (hj : j < 64) : stn j (1#64 <<< j) = 1#64 := by
  rw [stn_shift j _ (fun i hi => by rw [BitVec.getLsbD_shiftLeft]; simp [hi])]
  apply BitVec.eq_of_getLsbD_eq
  intro i hi
  rw [BitVec.getLsbD_ushiftRight, BitVec.getLsbD_shiftLeft]
  have q : ¬ j + i < j := by omega
  simp only [q, decide_false, Bool.not_false, Bool.and_true, Nat.add_sub_cancel_left]
  by_cases h : j + i < 64
  · simp [h]
  · have : i ≠ 0 := by omega
    simp [h, this]
theorem crc_xor (l : List Int) : ∀ r e : BitVec 64, crc (r ^^^ e) l = crc r l ^^^ stn (8 * l.length) e := by
  induction l with
  | nil => intro r e; rfl
  | cons c l ih =>
    intro r e
    have h : inB (r ^^^ e) c = inB r c ^^^ stn 8 e := by
      unfold inB
      rw [BitVec.xor_assoc, BitVec.xor_comm e, ← BitVec.xor_assoc, stn_xor]
    show crc (inB (r ^^^ e) c) l = crc (inB r c) l ^^^ stn (8 * (l.length + 1)) e
    rw [h, ih, stn_add, Nat.mul_add]
theorem crc_set (c' : Int) (e : BitVec 64) (l : List Int) : ∀ (x : Nat) (r : BitVec 64), x < l.length → B64 c' = B64 (l.getD x 0) ^^^ e → crc r (l.set x c') = crc r l ^^^ stn (8 * (l.length - x)) e := by
  induction l with
  | nil => intro x r hx; exact absurd hx (Nat.not_lt_zero x)
  | cons c l ih =>
    intro x r hx he
    cases x with
    | zero =>
      have h : inB r c' = inB r c ^^^ stn 8 e := by
        unfold inB
        rw [he, show (c :: l).getD 0 0 = c from rfl, ← BitVec.xor_assoc, stn_xor]
      show crc (inB r c') l = crc (inB r c) l ^^^ stn (8 * (l.length + 1 - 0)) e
      rw [h, crc_xor, stn_add, Nat.sub_zero, Nat.mul_add]
    | succ x =>
      show crc (inB r c) (l.set x c') = crc (inB r c) l ^^^ stn (8 * (l.length + 1 - (x + 1))) e
      rw [ih x (inB r c) (by simpa using hx) (by simpa using he), Nat.add_sub_add_right]
theorem bt_table : ∀ (c : Fin 256) (b : Fin 8), B64 (Go.bits .xor .u8 (c.val : Int) (2 ^ b.val % 256)) = B64 (c.val : Int) ^^^ (1#64 <<< b.val) ∧ 0 ≤ Go.bits .xor .u8 (c.val : Int) (2 ^ b.val % 256) ∧ Go.bits .xor .u8 (c.val : Int) (2 ^ b.val % 256) ≤ 255 := by decide +kernel
theorem bt_xor (c : Int) (hc : 0 ≤ c ∧ c ≤ 255) (b : Nat) (hb : b < 8) : B64 (Go.bits .xor .u8 c (2 ^ b % 256)) = B64 c ^^^ (1#64 <<< b) ∧ 0 ≤ Go.bits .xor .u8 c (2 ^ b % 256) ∧ Go.bits .xor .u8 c (2 ^ b % 256) ≤ 255 := by
  have h := bt_table ⟨c.toNat, by omega⟩ ⟨b, hb⟩
  rw [show ((⟨c.toNat, by omega⟩ : Fin 256).val : Int) = c by show (c.toNat : Int) = c; omega] at h
  exact h
theorem stn_less (m b : Nat) (hb : b < 64) (h : b ≤ m) : stn m (1#64 <<< b) = stn (m - b) 1#64 := by
  have e := stn_add (m - b) b (1#64 <<< b)
  rw [stn_one b hb, Nat.sub_add_cancel h] at e
  exact e.symm
theorem turn_bit (l : List Int) (H n K i A : Nat) (hi : i < 64) (hK : K = A + i) (hn : K < 8 * n) (hl : l.length = H + n) (r : BitVec 64) (hb : ∀ x ∈ l, 0 ≤ x ∧ x ≤ 255) :
    crc r (l.set (H + K / 8) (Go.bits .xor .u8 (l.getD (H + K / 8) 0) (2 ^ (K % 8) % 256))) = crc r l ^^^ stn (8 * n - A) (1#64 <<< i) := by
  have hx : H + K / 8 < l.length := by omega
  have hc : 0 ≤ l.getD (H + K / 8) 0 ∧ l.getD (H + K / 8) 0 ≤ 255 := by
    rw [List.getD_eq_getElem?_getD, List.getElem?_eq_getElem hx]
    exact hb _ (List.getElem_mem hx)
  rw [crc_set _ (1#64 <<< (K % 8)) l (H + K / 8) r hx (bt_xor _ hc (K % 8) (by omega)).1, stn_less _ _ (by omega) (by omega), stn_less _ _ hi (by omega)]
  congr 2
  omega
/-- The bits that are met ahead of round i. -/
def PM (n A : Nat) (a2 : Int) : Nat → BitVec 64
  | 0 => 0#64
  | i + 1 => if Go.bits .and .u64 (a2 / 2 ^ i) 1 = 1 ∧ A + i < 8 * n then PM n A a2 i ^^^ (1#64 <<< i) else PM n A a2 i
theorem pm_high (n A : Nat) (a2 : Int) (i : Nat) : ∀ j, i ≤ j → (PM n A a2 i).getLsbD j = false := by
  induction i with
  | zero => intro j _; simp [PM]
  | succ i ih =>
    intro j hj
    unfold PM
    split
    · rw [BitVec.getLsbD_xor, ih j (by omega), BitVec.getLsbD_shiftLeft]
      have : (1#64).getLsbD (j - i) = false := by
        rw [BitVec.getLsbD_one]
        simp
        omega
      rw [this]
      simp
    · exact ih j (by omega)
theorem bst_inv (s : ByteArray) (n H A : Nat) (a2 : Int) (hs : H + n ≤ s.size) (r : BitVec 64) (i : Nat) (hi : i ≤ 64) :
    (PB.bst s n H A a2 i).1.length = s.size ∧ (∀ x ∈ (PB.bst s n H A a2 i).1, 0 ≤ x ∧ x ≤ 255) ∧ (PB.bst s n H A a2 i).1.take H = (bytesOf s).take H ∧ (PB.bst s n H A a2 i).1.drop (H + n) = (bytesOf s).drop (H + n)
      ∧ crc r ((PB.bst s n H A a2 i).1.take (H + n)) = crc r ((bytesOf s).take (H + n)) ^^^ stn (8 * n - A) (PM n A a2 i) ∧ ((PB.bst s n H A a2 i).2 = true → PM n A a2 i ≠ 0#64) ∧ ((PB.bst s n H A a2 i).2 = false → (PB.bst s n H A a2 i).1 = bytesOf s) := by
  induction i with
  | zero =>
    have z : stn (8 * n - A) (0#64) = 0#64 := by
      have h := stn_xor (8 * n - A) 0#64 0#64
      rw [BitVec.xor_self, BitVec.xor_self] at h
      exact h
    refine ⟨bytesOf_length s, ?_, rfl, rfl, ?_, fun h => Bool.noConfusion h, fun _ => rfl⟩
    · intro x hx
      exact bytesOf_byte s x hx
    · show _ = _ ^^^ stn (8 * n - A) 0#64
      rw [z, BitVec.xor_zero]
      rfl
  | succ i ih =>
    obtain ⟨h1, h2, h3, h4, h5, h6, h7⟩ := ih (by omega)
    by_cases c : Go.bits .and .u64 (a2 / 2 ^ i) 1 = 1 ∧ A + i < 8 * n
    · rw [show PB.bst s n H A a2 (i + 1) = _ from if_pos c, show PM n A a2 (i + 1) = _ from if_pos c]
      generalize PB.bst s n H A a2 i = q at h1 h2 h3 h4 h5 h6 h7
      have hx : H + (A + i) / 8 < H + n := by omega
      have hv : q.1[H + (A + i) / 8]?.getD 0 = (q.1.take (H + n)).getD (H + (A + i) / 8) 0 := by
        rw [List.getD_eq_getElem?_getD, List.getElem?_take_of_lt hx]
      have hlt : (q.1.take (H + n)).length = H + n := by rw [List.length_take]; omega
      have hb : ∀ x ∈ q.1.take (H + n), 0 ≤ x ∧ x ≤ 255 := fun x hx => h2 x (List.mem_of_mem_take hx)
      refine ⟨by rw [List.length_set]; exact h1, ?_, ?_, ?_, ?_, ?_, fun h => Bool.noConfusion h⟩
      · intro x hm
        rcases List.mem_or_eq_of_mem_set hm with g | rfl
        · exact h2 x g
        · have hc : 0 ≤ q.1[H + (A + i) / 8]?.getD 0 ∧ q.1[H + (A + i) / 8]?.getD 0 ≤ 255 := by
            rw [List.getElem?_eq_getElem (by omega)]
            exact h2 _ (List.getElem_mem _)
          exact (bt_xor _ hc ((A + i) % 8) (by omega)).2
      · show (q.1.set _ _).take H = _
        rw [List.take_set, List.set_eq_of_length_le (by rw [List.length_take]; omega)]
        exact h3
      · show (q.1.set _ _).drop (H + n) = _
        rw [List.drop_set_of_lt hx]
        exact h4
      · show crc r ((q.1.set _ _).take (H + n)) = _
        rw [List.take_set, hv, turn_bit (q.1.take (H + n)) H n (A + i) i A (by omega) rfl c.2 hlt r hb, h5, stn_xor, BitVec.xor_assoc]
      · intro _ h
        have g := congrArg (fun y : BitVec 64 => y.getLsbD i) h
        simp only [BitVec.getLsbD_xor, pm_high n A a2 i i (Nat.le_refl i), BitVec.getLsbD_shiftLeft, BitVec.getLsbD_zero, Nat.sub_self] at g
        have : i < 64 := by omega
        simp [this] at g
    · rw [show PB.bst s n H A a2 (i + 1) = _ from if_neg c, show PM n A a2 (i + 1) = _ from if_neg c]
      exact ⟨h1, h2, h3, h4, h5, h6, h7⟩
theorem eightS_inj (m n : Int) (hm : 0 ≤ m ∧ m < 18446744073709551616) (hn : 0 ≤ n ∧ n < 18446744073709551616) (h : eightS m = eightS n) : m = n := by
  unfold eightS at h
  simp only [List.cons.injEq, and_true] at h
  omega
theorem op_turned (t : ByteArray) (n H : Nat) (S : Int) (hn : n ≤ 30000) (hS : 0 ≤ S ∧ S < 18446744073709551616) (hH : H = 2 + (numS n).length)
    (h3 : (bytesOf t).take H = 231 :: 3 :: numS n) (h4 : (bytesOf t).drop (H + n) = eightS S) (hl : t.size = H + n + 8) :
    OP t 0 3 = if sumS ((bytesOf t).take (H + n)) = S then (t.extract H (H + n), ((H + n + 8 : Nat) : Int), 0) else (E0, 0, 22) := by
  have hlen : (bytesOf t).length = H + n + 8 := by rw [size_bytesOf]; exact hl
  have hL : bytesOf t = 231 :: 3 :: (numS n ++ (bytesOf t).drop H) := by
    conv => lhs; rw [← List.take_append_drop H (bytesOf t), h3]
    rfl
  have b0 : bt t 0 = 231 := by
    have := bt_nat t 0 (by omega)
    rw [show ((0 : Nat) : Int) = 0 from rfl] at this
    rw [this]
    have q : (bytesOf t)[0]? = some 231 := by rw [hL]; rfl
    rw [List.getElem?_eq_getElem (by omega)] at q
    exact Option.some.inj q
  have b1 : bt t (0 + 1) = 3 := by
    have := bt_nat t 1 (by omega)
    rw [show (0 + 1 : Int) = ((1 : Nat) : Int) from rfl, this]
    have q : (bytesOf t)[1]? = some 3 := by rw [hL]; rfl
    rw [List.getElem?_eq_getElem (by omega)] at q
    exact Option.some.inj q
  have d2 : (bytesOf t).drop 2 = numS n ++ (bytesOf t).drop H := by
    conv => lhs; rw [hL]
    rfl
  have hT : TN t (0 + 2) = ((n : Int), (H : Int), 0) := by
    unfold TN
    rw [if_neg (by omega), show ((0 + 2 : Int)).toNat = 2 from rfl, d2, tnS_canon _ _ (canon_numS n) (by rw [valS_numS]; omega), valS_numS]
    simp only [if_pos rfl, Prod.mk.injEq, true_and, and_true]
    simp
    omega
  unfold OP
  rw [if_neg (by omega), if_neg (by omega), b0, if_pos rfl, if_neg (by omega), b1, if_pos rfl, hT]
  simp only
  rw [if_pos trivial, if_neg (by omega), if_neg (by omega)]
  have e1 : ((H : Int) + (n : Int)).toNat = H + n := by omega
  have e2 : ((H : Int) + (n : Int) + 8).toNat = H + n + 8 := by omega
  have e3 : bytesOf (t.extract (0 : Int).toNat (H + n)) = (bytesOf t).take (H + n) := by
    rw [bytesOf_extract]
    rfl
  have e4 : bytesOf (t.extract (H + n) (H + n + 8)) = eightS S := by
    rw [bytesOf_extract, List.take_of_length_le (by omega), h4]
  rw [e1, e2, e3]
  have e5 : (eightB (sumS ((bytesOf t).take (H + n))) = t.extract (H + n) (H + n + 8)) ↔ sumS ((bytesOf t).take (H + n)) = S := by
    constructor
    · intro h
      have g := congrArg bytesOf h
      rw [eightB_bytes, e4] at g
      exact eightS_inj _ _ (i64_range _) hS g
    · intro h
      apply bytesOf_inj
      rw [eightB_bytes, e4, h]
  by_cases c : sumS ((bytesOf t).take (H + n)) = S
  · rw [if_pos c, if_pos (e5.2 c)]
    simp
  · rw [if_neg c, if_neg (fun h => c (e5.1 h))]
/-! The statement, joined. -/
theorem ev_and {α β : Type} {g : Nat → Option α} {f : Nat → Option β} {r : α} {q : β} (h : Ev g r) (h' : Ev f q) : ∃ K, ∀ k, K ≤ k → g k = some r ∧ f k = some q := by
  obtain ⟨K, hK⟩ := h
  obtain ⟨L, hL⟩ := h'
  exact ⟨K + L, fun k hk => ⟨hK k (by omega), hL k (by omega)⟩⟩
theorem crc_allOnes_inj (x y : BitVec 64) (h : I64 (~~~ x) = I64 (~~~ y)) : x = y := by
  unfold I64 at h
  have h2 : (~~~ x).toNat = (~~~ y).toNat := by omega
  have h3 := BitVec.eq_of_toNat_eq h2
  have h4 := congrArg (fun z => ~~~ z) h3
  simpa using h4
theorem bursts_all (body : ByteArray) (a1 a2 : Int) (w : World) (h0 : body.size ≤ 140737488351232) :
    Calls Try.prog 6 #[.string body, .int .i64 a1, .int .u64 a2] w fun e w' => e = .returned (.bool true) ∧ Below w.heap.size w w' := by
  by_cases hc : ¬ (SEAL 3 body).2 = 0 ∨ a2 = 0 ∨ a1 < 0 ∨ 8 * (body.size : Int) ≤ a1
  · obtain ⟨K, hK⟩ := ev_and (seal_ev 3 body) awake_ev
    obtain ⟨h1, h2⟩ := hK K (Nat.le_refl _)
    exact PB.bursts_early K body a1 a2 (SEAL 3 body).1 (SEAL 3 body).2 w h0 h1 h2 hc
  · have c0 : (SEAL 3 body).2 = 0 := Decidable.byContradiction fun h => hc (.inl h)
    have c1 : ¬ a2 = 0 := fun h => hc (.inr (.inl h))
    have c2 : ¬ a1 < 0 := fun h => hc (.inr (.inr (.inl h)))
    have c3 : ¬ 8 * (body.size : Int) ≤ a1 := fun h => hc (.inr (.inr (.inr h)))
    clear hc
    have hb : ¬ (body.size : Int) > 30000 := by
      intro h
      unfold SEAL at c0
      rw [if_neg (by omega), if_pos h] at c0
      exact absurd c0 (by decide)
    clear c0
    have hS : SEAL 3 body = (hdB 3 body ++ eightB (sumS (bytesOf (hdB 3 body))), 0) := by
      unfold SEAL
      rw [if_neg (by omega), if_neg hb]
    obtain ⟨A, rfl⟩ : ∃ A : Nat, a1 = (A : Int) := ⟨a1.toNat, by omega⟩
    have hA : A < 8 * body.size := by omega
    obtain ⟨H, hH⟩ : ∃ H, H = 2 + (numS body.size).length := ⟨_, rfl⟩
    have hHle : H ≤ 12 := by
      have := numS_ten body.size (by omega)
      omega
    obtain ⟨s, hs⟩ : ∃ s, s = hdB 3 body ++ eightB (sumS (bytesOf (hdB 3 body))) := ⟨_, rfl⟩
    rw [← hs] at hS
    have hd : bytesOf (hdB 3 body) = 231 :: 3 :: (numS body.size ++ bytesOf body) := hd_bytes 3 body
    have bs : bytesOf s = (231 :: 3 :: numS body.size) ++ bytesOf body ++ eightS (sumS (bytesOf (hdB 3 body))) := by
      rw [hs, bytesOf_append, eightB_bytes, hd]
      simp
    have hdl : (bytesOf (hdB 3 body)).length = H + body.size := by
      rw [hd]
      simp [size_bytesOf]
      omega
    have hds : (hdB 3 body).size = H + body.size := by rw [← size_bytesOf, hdl]
    have hsz : H + body.size + 8 = s.size := by
      rw [hs, size_app, eightB_size, hds]
    have t0 : (231 :: 3 :: numS body.size : List Int).length = H := by
      simp
      omega
    have t1 : (bytesOf s).take (H + body.size) = bytesOf (hdB 3 body) := by
      rw [hs, bytesOf_append, List.take_append_of_le_length (by omega), List.take_of_length_le (by omega)]
    have t2 : (bytesOf s).drop (H + body.size) = eightS (sumS (bytesOf (hdB 3 body))) := by
      rw [hs, bytesOf_append, List.drop_append_of_le_length (by omega), List.drop_of_length_le (by omega), eightB_bytes]
      rfl
    have t3 : (bytesOf s).take H = 231 :: 3 :: numS body.size := by
      rw [bs, List.append_assoc, List.take_append_of_le_length (by omega), List.take_of_length_le (by omega)]
    obtain ⟨i1, i2, i3, i4, i5, i6, i7⟩ := bst_inv s body.size H A a2 (by omega) (BitVec.allOnes 64) 64 (Nat.le_refl _)
    rw [t3] at i3
    rw [t2] at i4
    rw [t1] at i5
    have hT : bytesOf (strOfNums (PB.bst s body.size H A a2 64).1) = (PB.bst s body.size H A a2 64).1 := bytesOf_nums _ i2
    have hTs : (strOfNums (PB.bst s body.size H A a2 64).1).size = H + body.size + 8 := by
      rw [← size_bytesOf, hT, i1, hsz]
    have hop := op_turned (strOfNums (PB.bst s body.size H A a2 64).1) body.size H (sumS (bytesOf (hdB 3 body))) (by omega) (i64_range _) hH (by rw [hT]; exact i3) (by rw [hT]; exact i4) hTs
    rw [hT] at hop
    have hsum : (sumS ((PB.bst s body.size H A a2 64).1.take (H + body.size)) = sumS (bytesOf (hdB 3 body))) ↔ PM body.size A a2 64 = 0#64 := by
      unfold sumS
      rw [i5]
      constructor
      · intro h
        have g := crc_allOnes_inj _ _ h
        have g2 : crc (BitVec.allOnes 64) (bytesOf (hdB 3 body)) ^^^ (crc (BitVec.allOnes 64) (bytesOf (hdB 3 body)) ^^^ stn (8 * body.size - A) (PM body.size A a2 64)) = 0#64 := by
          rw [g, BitVec.xor_self]
        rw [← BitVec.xor_assoc, BitVec.xor_self, BitVec.zero_xor] at g2
        exact stn_zero _ _ g2
      · intro h
        have z : stn (8 * body.size - A) (0#64) = 0#64 := by
          have h := stn_xor (8 * body.size - A) 0#64 0#64
          rw [BitVec.xor_self, BitVec.xor_self] at h
          exact h
        rw [h, z, BitVec.xor_zero]
    have hopen := open_ev (strOfNums (PB.bst s body.size H A a2 64).1) (by omega) 0 3
    have hres : if (PB.bst s body.size H A a2 64).2 = true then (OP (strOfNums (PB.bst s body.size H A a2 64).1) 0 3).1 = ⟨#[]⟩ ∧ (OP (strOfNums (PB.bst s body.size H A a2 64).1) 0 3).2.1 = 0 ∧ (OP (strOfNums (PB.bst s body.size H A a2 64).1) 0 3).2.2 = 22 else (OP (strOfNums (PB.bst s body.size H A a2 64).1) 0 3).1 = body ∧ (OP (strOfNums (PB.bst s body.size H A a2 64).1) 0 3).2.2 = 0 := by
      by_cases c : (PB.bst s body.size H A a2 64).2 = true
      · rw [if_pos c]
        rw [if_neg (fun h => i6 c (hsum.1 h))] at hop
        rw [hop]
        exact ⟨rfl, rfl, rfl⟩
      · rw [if_neg c]
        have e := i7 (by simpa using c)
        rw [e, t1, if_pos rfl] at hop
        rw [e, hop]
        refine ⟨?_, rfl⟩
        show (strOfNums (bytesOf s)).extract H (H + body.size) = body
        apply bytesOf_inj
        rw [bytesOf_extract, nums_bytesOf, t1, hd, show 231 :: 3 :: (numS body.size ++ bytesOf body) = (231 :: 3 :: numS body.size) ++ bytesOf body from rfl, List.drop_append_of_le_length (by omega), List.drop_of_length_le (by omega)]
        rfl
    obtain ⟨K, hK⟩ := ev_and (seal_ev 3 body) awake_ev
    obtain ⟨L, hL⟩ := hopen
    obtain ⟨h1, h2⟩ := hK (K + L) (by omega)
    have h3 := hL (K + L) (by omega)
    rw [hS] at h1
    exact PB.bursts_main (K + L) body A a2 s H _ _ _ w h0 (by omega) h1 c1 hA hsz h3 h2 hres

end Go.Proofs.Ytfjemhfcdbjolaa.Pure
