/- SealOpens: proved for all arguments; no condition. -/
import Derived.Test.YtfjemhfcdbjolaaNum
import Derived.Test.YtfjemhfcdbjolaaPBx7
namespace Go.Proofs.Ytfjemhfcdbjolaa.Pure
open Go.RowKit Go.Proofs.Ytfjemhfcdbjolaa.PB Go.Proofs.YtfjemhfcdbjolaaW.PrintWords Go.Proofs.YtfjemhfcdbjolaaW.PrintLast Go.Proofs.YtfjemhfcdbjolaaW.PrintMore Go.Proofs.Ytfjemhfcdbjolaa.Num
set_option linter.unusedVariables false
set_option linter.unusedSimpArgs false

/-- A number's form. -/
def Nm (n : Int) : ByteArray := strOfNums (numS n.toNat)
theorem nm_bytes (n : Int) : bytesOf (Nm n) = numS n.toNat := bytesOf_nums _ (numS_byte _)
theorem nm_size (n : Int) : (Nm n).size = (numS n.toNat).length := by rw [← size_bytesOf, nm_bytes]
theorem nm_ten (n : Int) (h : 0 ≤ n ∧ n < 18446744073709551616) : 1 ≤ (Nm n).size ∧ (Nm n).size ≤ 10 := by
  rw [nm_size]
  exact ⟨numS_pos _, numS_ten _ (by omega)⟩
theorem number_loop (n : Nat) : ∀ acc : List Int, acc.length + (numS n).length ≤ 1000 → Ev (fun k => pack_Number.l0 k (n : Int) acc) (strOfNums (acc ++ numS n)) := by
  induction n using Nat.strongRecOn with
  | _ n ih =>
    intro acc hl
    have hp := numS_pos n
    by_cases h : n < 128
    · refine Ev.step (f := fun _ => some (strOfNums (acc ++ numS n))) (fun k => ?_) (Ev.now _)
      simp only [pack_Number.l0]
      rw [if_neg (by omega), if_pos (by omega), numS_small h]
      congr 4
      omega
    · have e := numS_big h
      rw [e, List.length_cons] at hl
      have := ih (n / 128) (by omega) (acc ++ [((n % 128 + 128 : Nat) : Int)]) (by rw [List.length_append, List.length_singleton]; omega)
      rw [e]
      rw [List.append_assoc, List.singleton_append] at this
      refine Ev.step (fun k => ?_) this
      simp only [pack_Number.l0]
      rw [if_pos (by omega), if_pos (by omega), or128 _ (by omega)]
      have q1 : (n : Int) / 128 = ((n / 128 : Nat) : Int) := by omega
      have q2 : (n : Int) % 256 % 128 + 128 = ((n % 128 + 128 : Nat) : Int) := by omega
      rw [q1, q2]
theorem number_ev (n : Int) (h : 0 ≤ n ∧ n < 18446744073709551616) : Ev (fun k => pack_Number.f k n) (Nm n) := by
  obtain ⟨m, rfl⟩ := Int.eq_ofNat_of_zero_le h.1
  have := number_loop m [] (by have := numS_ten m (by omega); simp; omega)
  rw [List.nil_append] at this
  exact this
/-- A text's form. -/
def Tx (s : ByteArray) : ByteArray := Nm (s.size : Int) ++ s
theorem size_app (s t : ByteArray) : (s ++ t).size = s.size + t.size := by
  rw [← size_bytesOf, bytesOf_append, List.length_append, size_bytesOf, size_bytesOf]
theorem tx_size (s : ByteArray) (h : s.size ≤ 140737488351232) : (Tx s).size ≤ s.size + 10 := by
  unfold Tx
  have := (nm_ten (s.size : Int) (by omega)).2
  rw [size_app]; omega
theorem text_ev (s : ByteArray) (h : s.size ≤ 140737488351232) : Ev (fun k => pack_Text.f k s) (Tx s) := by
  have hn := nm_ten (s.size : Int) (by omega)
  have hu := uw (s.size : Int) (by omega)
  unfold pack_Text.f
  rw [hu]
  refine Ev.bind (number_ev (s.size : Int) (by omega)) ?_
  refine Ev.congr (f := fun _ => some (Tx s)) (fun k => ?_) (Ev.now _)
  rw [if_pos (by omega)]
  rfl
/-- Texts, one behind the other. -/
def cat : List ByteArray → ByteArray
  | [] => ByteArray.empty
  | s :: l => s ++ cat l
theorem drop_rdOf (l : List ByteArray) (i : Nat) (h : i < l.length) : l.drop i = rdOf ByteArray.empty l (i : Int) :: l.drop (i + 1) := by
  rw [List.drop_eq_getElem_cons h]
  congr 1
  unfold rdOf
  simp [List.getD_eq_getElem?_getD, List.getElem?_eq_getElem h]
theorem app_assoc (a b c : ByteArray) : a ++ b ++ c = a ++ (b ++ c) := bytesOf_inj (by simp only [bytesOf_append, List.append_assoc])
theorem app_empty (a : ByteArray) : a ++ ByteArray.empty = a := bytesOf_inj (by simp only [bytesOf_append, bytesOf_empty, List.append_nil])
theorem rnumber_nat (n : Nat) : n < 18446744073709551616 → Ev (fun k => ententeref01_Number.f k (n : Int)) (strOfNums (numS n)) := by
  induction n using Nat.strongRecOn with
  | _ n ih =>
    intro hn
    by_cases h : n < 128
    · refine Ev.step (f := fun _ => some (strOfNums (numS n))) (fun k => ?_) (Ev.now _)
      simp only [ententeref01_Number.f]
      rw [if_pos (by omega), numS_small h]
      congr 3
      omega
    · have e := numS_big h
      have t1 : Int.tmod (n : Int) 128 = ((n % 128 : Nat) : Int) := by rw [Int.tmod_eq_emod_of_nonneg (by omega)]; omega
      have t2 : Int.tdiv (n : Int) 128 = ((n / 128 : Nat) : Int) := by rw [Int.tdiv_eq_ediv_of_nonneg (by omega)]; omega
      have u1 := uw (((n % 128 : Nat) : Int) + 128) (by omega)
      have u2 := uw (((n / 128 : Nat) : Int)) (by omega)
      have hl := numS_ten (n / 128) (by omega)
      refine Ev.step (f := fun k => (ententeref01_Number.f k ((n / 128 : Nat) : Int)).bind fun t => (if (strOfNums [((n % 128 : Nat) : Int) + 128]).size + t.size ≤ 9223372036854775807 then (some ((strOfNums [((n % 128 : Nat) : Int) + 128]) ++ t)) else (none))) (fun k => ?_) ?_
      · simp only [ententeref01_Number.f]
        rw [if_neg (by omega), t1, t2, u1, u2]
        simp only [Option.bind_some]
        rw [show (((n % 128 : Nat) : Int) + 128) % 256 = ((n % 128 : Nat) : Int) + 128 by omega]
      · refine Ev.bind (ih (n / 128) (by omega) (by omega)) ?_
        refine Ev.congr (f := fun _ => some (strOfNums (numS n))) (fun k => ?_) (Ev.now _)
        rw [if_pos (by rw [strOfNums_size, strOfNums_size]; simp; omega), e, ← Num.nums_append]
        rfl
theorem rnumber_ev (n : Int) (h : 0 ≤ n ∧ n < 18446744073709551616) : Ev (fun k => ententeref01_Number.f k n) (Nm n) := by
  obtain ⟨m, rfl⟩ := Int.eq_ofNat_of_zero_le h.1
  exact rnumber_nat m (by omega)
theorem rtext_ev (s : ByteArray) (h : s.size ≤ 140737488351232) : Ev (fun k => ententeref01_Text.f k s) (Tx s) := by
  have hn := nm_ten (s.size : Int) (by omega)
  have hu := uw (s.size : Int) (by omega)
  unfold ententeref01_Text.f
  rw [hu]
  refine Ev.bind (rnumber_ev (s.size : Int) (by omega)) ?_
  refine Ev.congr (f := fun _ => some (Tx s)) (fun k => ?_) (Ev.now _)
  rw [if_pos (by omega)]
  rfl
/-! The register, as 64 bits. -/
def I64 (x : BitVec 64) : Int := (x.toNat : Int)
def B64 (n : Int) : BitVec 64 := BitVec.ofNat 64 n.toNat
theorem i64_range (x : BitVec 64) : 0 ≤ I64 x ∧ I64 x < 18446744073709551616 := by
  have := x.isLt
  unfold I64
  omega
theorem i64_b64 (n : Int) (h : 0 ≤ n ∧ n < 18446744073709551616) : I64 (B64 n) = n := by
  unfold I64 B64
  rw [BitVec.toNat_ofNat]
  omega
theorem b64_i64 (x : BitVec 64) : B64 (I64 x) = x := by
  unfold I64 B64
  rw [Int.toNat_natCast, BitVec.ofNat_toNat]
  simp
theorem i64_inj {x y : BitVec 64} (h : I64 x = I64 y) : x = y := by rw [← b64_i64 x, h, b64_i64]
theorem ofInt_i64 (x : BitVec 64) : BitVec.ofInt 64 (I64 x) = x := by
  unfold I64
  rw [BitVec.ofInt_natCast, BitVec.ofNat_toNat]
  simp
theorem xor_is (x y : BitVec 64) : Go.bits .xor .u64 (I64 x) (I64 y) = I64 (x ^^^ y) := by
  have h : Go.bits .xor .u64 (I64 x) (I64 y) = IntKind.u64.wrap (((BitVec.ofInt 64 (I64 x) ^^^ BitVec.ofInt 64 (I64 y)).toNat : Nat) : Int) := rfl
  rw [h, ofInt_i64, ofInt_i64]
  exact uw _ (i64_range _)
theorem and_is (x y : BitVec 64) : Go.bits .and .u64 (I64 x) (I64 y) = I64 (x &&& y) := by
  have h : Go.bits .and .u64 (I64 x) (I64 y) = IntKind.u64.wrap (((BitVec.ofInt 64 (I64 x) &&& BitVec.ofInt 64 (I64 y)).toNat : Nat) : Int) := rfl
  rw [h, ofInt_i64, ofInt_i64]
  exact uw _ (i64_range _)
theorem div16_is (x : BitVec 64) : I64 x / (16 : Int) = I64 (x >>> (4 : Nat)) := by
  unfold I64
  rw [BitVec.toNat_ushiftRight, Nat.shiftRight_eq_div_pow]
  omega
theorem div2_is (x : BitVec 64) : I64 x / (2 : Int) = I64 (x >>> (1 : Nat)) := by
  unfold I64
  rw [BitVec.toNat_ushiftRight, Nat.shiftRight_eq_div_pow]
  omega
/-- The polynomial. -/
def poly : BitVec 64 := 14514072000185962306#64
/-- One bit's step. -/
def st (x : BitVec 64) : BitVec 64 := (x >>> 1) ^^^ (if x.getLsbD 0 = true then poly else 0#64)
theorem st_xor (x y : BitVec 64) : st (x ^^^ y) = st x ^^^ st y := by
  unfold st
  rw [BitVec.ushiftRight_xor_distrib, BitVec.getLsbD_xor]
  cases x.getLsbD 0 <;> cases y.getLsbD 0 <;> simp
  · rw [BitVec.xor_assoc]
  · rw [BitVec.xor_assoc, BitVec.xor_assoc, BitVec.xor_comm (y >>> 1) poly]
  · rw [BitVec.xor_assoc (x >>> 1), BitVec.xor_comm poly, BitVec.xor_assoc (y >>> 1), BitVec.xor_self, BitVec.xor_zero]
def stn : Nat → BitVec 64 → BitVec 64
  | 0, x => x
  | n + 1, x => st (stn n x)
theorem stn_xor (n : Nat) (x y : BitVec 64) : stn n (x ^^^ y) = stn n x ^^^ stn n y := by
  induction n with
  | zero => rfl
  | succ n ih => rw [stn, ih, st_xor]; rfl
theorem stn_add (m n : Nat) (x : BitVec 64) : stn m (stn n x) = stn (m + n) x := by
  induction m with
  | zero => rw [Nat.zero_add]; rfl
  | succ m ih => rw [show m + 1 + n = (m + n) + 1 by omega, stn, ih]; rfl
theorem st_even (x : BitVec 64) (h : x.getLsbD 0 = false) : st x = x >>> 1 := by
  unfold st
  rw [h]
  simp
theorem stn_shift (n : Nat) (x : BitVec 64) (h : ∀ i, i < n → x.getLsbD i = false) : stn n x = x >>> n := by
  induction n with
  | zero => simp [stn]
  | succ n ih =>
    rw [stn, ih (fun i hi => h i (by omega)), st_even]
    · rw [BitVec.shiftRight_add]
    · rw [BitVec.getLsbD_ushiftRight, Nat.add_zero]
      exact h n (by omega)
theorem low_high (x : BitVec 64) : x = (x &&& 15#64) ^^^ (x &&& ~~~15#64) := by
  ext i hi
  simp only [BitVec.getElem_xor, BitVec.getElem_and, BitVec.getElem_not]
  cases x[i] <;> cases (15#64)[i] <;> rfl
theorem high_low (x : BitVec 64) : ∀ i, i < 4 → (x &&& ~~~15#64).getLsbD i = false := by
  intro i hi
  have : (~~~15#64).getLsbD i = false := by
    match i with
    | 0 | 1 | 2 | 3 => decide
    | i + 4 => omega
  rw [BitVec.getLsbD_and, this, Bool.and_false]
theorem high_shift (x : BitVec 64) : (x &&& ~~~15#64) >>> 4 = x >>> 4 := by
  rw [BitVec.ushiftRight_and_distrib]
  have : ((~~~15#64) >>> 4 : BitVec 64) = 1152921504606846975#64 := by decide
  rw [this]
  apply BitVec.eq_of_toNat_eq
  rw [BitVec.toNat_and, BitVec.toNat_ushiftRight, Nat.shiftRight_eq_div_pow]
  have h := x.isLt
  have e : (1152921504606846975#64).toNat = 2 ^ 60 - 1 := by decide
  rw [e, Nat.and_two_pow_sub_one_eq_mod, Nat.mod_eq_of_lt (by omega)]
theorem tab_is : ∀ n : Fin 16, rd seal_tab (n.val : Int) = I64 (stn 4 (BitVec.ofNat 64 n.val)) := by decide +kernel
theorem half_is (x : BitVec 64) : seal_half (I64 x) = I64 (stn 4 x) := by
  unfold seal_half
  have e15 : (15 : Int) = I64 15#64 := rfl
  rw [e15, and_is, div16_is]
  have hlt : (x &&& 15#64).toNat < 16 := by
    rw [BitVec.toNat_and]
    have : x.toNat &&& (15#64).toNat ≤ (15#64).toNat := Nat.and_le_right
    have e : (15#64).toNat = 15 := by decide
    omega
  have h := tab_is ⟨(x &&& 15#64).toNat, hlt⟩
  have h2 : BitVec.ofNat 64 (x &&& 15#64).toNat = x &&& 15#64 := by rw [BitVec.ofNat_toNat]; simp
  rw [h2] at h
  rw [show rd seal_tab (I64 (x &&& 15#64)) = I64 (stn 4 (x &&& 15#64)) from h]
  rw [xor_is]
  congr 1
  conv => rhs; rw [low_high x]
  rw [stn_xor, stn_shift 4 _ (high_low x), high_shift, BitVec.xor_comm]
/-- One byte. -/
def inB (r : BitVec 64) (c : Int) : BitVec 64 := stn 8 (r ^^^ B64 c)
def crc (r : BitVec 64) (l : List Int) : BitVec 64 := l.foldl inB r
/-- The sum of bytes. -/
def sumS (l : List Int) : Int := I64 (~~~ crc (BitVec.allOnes 64) l)
theorem max_is : Go.IntKind.u64.max = I64 (BitVec.allOnes 64) := by decide
theorem not_is (x : BitVec 64) : Go.bits .xor .u64 Go.IntKind.u64.max (I64 x) = I64 (~~~ x) := by
  rw [max_is, xor_is, BitVec.allOnes_xor]
theorem byte_is (x : BitVec 64) (c : Int) (hc : 0 ≤ c ∧ c ≤ 255) : seal_half (seal_half (Go.bits .xor .u64 (I64 x) (IntKind.u64.wrap c))) = I64 (inB x c) := by
  have e : c = I64 (B64 c) := (i64_b64 c (by omega)).symm
  rw [uw c (by omega)]
  conv => lhs; rw [e]
  rw [xor_is, half_is, half_is, stn_add]
  rfl
theorem inner_loop (l : List ByteArray) (s : ByteArray) (hs : s.size ≤ 140737488351232) (i : Int) (res : Int) (d : Nat) : ∀ (j : Nat) (x : BitVec 64), j + d = s.size →
    Ev (fun k => seal_Sum.l0 k l (I64 (crc x ((bytesOf s).drop j))) (wrap64 (i + 1))) res → Ev (fun k => seal_Sum.l1 k l s (I64 x) i (j : Int)) res := by
  induction d with
  | zero =>
    intro j x hj h
    rw [List.drop_eq_nil_of_le (by rw [bytesOf_length]; omega)] at h
    refine Ev.step (fun k => ?_) h
    rw [seal_Sum.l1, if_neg (by omega)]
    rfl
  | succ d ih =>
    intro j x hj h
    have hd : (bytesOf s).drop j = bt s (j : Int) :: (bytesOf s).drop (j + 1) := by
      rw [List.drop_eq_getElem_cons (by rw [bytesOf_length]; omega), bt_nat s j (by omega)]
    rw [hd] at h
    refine Ev.step (fun k => ?_) (ih (j + 1) (inB x (bt s (j : Int))) (by omega) h)
    rw [seal_Sum.l1, if_pos (by omega), if_pos (by omega), byte_is x _ (bt_range s _), wr _ (by omega)]
    rfl
theorem sum_loop (l : List ByteArray) (hr : ∀ s ∈ l, s.size ≤ 140737488351232) (hl : l.length ≤ 140737488351232) (d : Nat) : ∀ (i : Nat) (x : BitVec 64), i + d = l.length →
    Ev (fun k => seal_Sum.l0 k l (I64 x) (i : Int)) (I64 (~~~ crc x (bytesOf (cat (l.drop i))))) := by
  induction d with
  | zero =>
    intro i x hi
    refine Ev.step (f := fun _ => some (I64 (~~~ crc x (bytesOf (cat (l.drop i)))))) (fun k => ?_) (Ev.now _)
    rw [seal_Sum.l0, if_neg (by omega), not_is, List.drop_eq_nil_of_le (by omega), cat, bytesOf_empty]
    rfl
  | succ d ih =>
    intro i x hi
    have hd := drop_rdOf l i (by omega)
    have hm : rdOf ByteArray.empty l (i : Int) ∈ l := List.mem_of_mem_drop (by rw [hd]; exact List.mem_cons_self ..)
    refine Ev.step (fun k => by rw [seal_Sum.l0, if_pos (by omega), if_pos (by omega)]) ?_
    refine inner_loop l (rdOf ByteArray.empty l (i : Int)) (hr _ hm) (i : Int) _ (rdOf ByteArray.empty l (i : Int)).size 0 x (by omega) ?_
    rw [List.drop_zero, hd, cat, bytesOf_append, wr _ (by omega)]
    have := ih (i + 1) (crc x (bytesOf (rdOf ByteArray.empty l (i : Int)))) (by omega)
    rw [show crc x (bytesOf (rdOf ByteArray.empty l (i : Int)) ++ bytesOf (cat (l.drop (i + 1)))) = crc (crc x (bytesOf (rdOf ByteArray.empty l (i : Int)))) (bytesOf (cat (l.drop (i + 1)))) from List.foldl_append]
    exact this
theorem sum_ev (l : List ByteArray) (hr : ∀ s ∈ l, s.size ≤ 140737488351232) (hl : l.length ≤ 140737488351232) : Ev (fun k => seal_Sum.f k l) (sumS (bytesOf (cat l))) := by
  have := sum_loop l hr hl l.length 0 (BitVec.allOnes 64) (by omega)
  rw [List.drop_zero] at this
  exact this
/-! The document's sum, bit by bit. -/
def bitN (c : Int) (b : Nat) : BitVec 64 := BitVec.ofNat 64 (c.toNat / 2 ^ b % 2)
def lowN (c : Int) (b : Nat) : BitVec 64 := BitVec.ofNat 64 (c.toNat % 2 ^ b)
theorem bits_table : ∀ (c : Fin 256) (b : Fin 8), (lowN (c.val : Int) b.val) ^^^ (bitN (c.val : Int) b.val <<< b.val) = lowN (c.val : Int) (b.val + 1) ∧ stn b.val (bitN (c.val : Int) b.val <<< b.val) = bitN (c.val : Int) b.val := by decide +kernel
theorem bits_step (c : Int) (hc : 0 ≤ c ∧ c ≤ 255) (b : Nat) (hb : b < 8) : lowN c b ^^^ (bitN c b <<< b) = lowN c (b + 1) ∧ stn b (bitN c b <<< b) = bitN c b := by
  obtain ⟨n, rfl⟩ := Int.eq_ofNat_of_zero_le hc.1
  exact bits_table ⟨n, by omega⟩ ⟨b, hb⟩
theorem feed_step (r : BitVec 64) (c : Int) (hc : 0 ≤ c ∧ c ≤ 255) (b : Nat) (hb : b < 8) : st (stn b (r ^^^ lowN c b) ^^^ bitN c b) = stn (b + 1) (r ^^^ lowN c (b + 1)) := by
  obtain ⟨h1, h2⟩ := bits_step c hc b hb
  rw [stn, ← h1, ← BitVec.xor_assoc, stn_xor b (r ^^^ lowN c b), h2]
theorem st_bit (x : BitVec 64) (b : Nat) (hb : b < 2) : st (x ^^^ BitVec.ofNat 64 b) = if x.toNat % 2 = b then x >>> 1 else (x >>> 1) ^^^ poly := by
  have hx : x.getLsbD 0 = decide (x.toNat % 2 = 1) := by
    rw [BitVec.getLsbD, Nat.testBit_zero]
  have hs : st x = if x.toNat % 2 = 1 then (x >>> 1) ^^^ poly else x >>> 1 := by
    unfold st
    rw [hx]
    by_cases g : x.toNat % 2 = 1
    · simp [g]
    · simp [g]
  rcases (show b = 0 ∨ b = 1 by omega) with rfl | rfl
  · rw [show x ^^^ BitVec.ofNat 64 0 = x by simp, hs]
    by_cases g : x.toNat % 2 = 1
    · rw [if_pos g, if_neg (by omega)]
    · rw [if_neg g, if_pos (by omega)]
  · rw [st_xor, hs, show st (BitVec.ofNat 64 1) = poly by decide]
    by_cases g : x.toNat % 2 = 1
    · rw [if_pos g, if_pos g, BitVec.xor_assoc, BitVec.xor_self, BitVec.xor_zero]
    · rw [if_neg g, if_neg g]
theorem rbits_loop (s : ByteArray) (hs : s.size ≤ 140737488351232) (i : Nat) (hi : i < s.size) (r : BitVec 64) (res : Int)
    (h : Ev (fun k => ententeref02_Sum.l0 k s (I64 (inB r (bt s (i : Int)))) (wrap64 ((i : Int) + 1))) res) (d : Nat) : ∀ b : Nat, b + d = 8 →
    Ev (fun k => ententeref02_Sum.l1 k s (I64 (stn b (r ^^^ lowN (bt s (i : Int)) b))) (i : Int) (b : Int)) res := by
  have hc := bt_range s (i : Int)
  induction d with
  | zero =>
    intro b hb
    obtain rfl : b = 8 := by omega
    have e : lowN (bt s (i : Int)) 8 = B64 (bt s (i : Int)) := by
      unfold lowN B64
      rw [Nat.mod_eq_of_lt (by omega)]
    rw [e]
    refine Ev.step (fun k => ?_) h
    rw [ententeref02_Sum.l1, if_neg (by omega)]
    rfl
  | succ d ih =>
    intro b hb
    have := ih (b + 1) (by omega)
    rw [← feed_step r _ hc b (by omega)] at this
    refine Ev.step (fun k => ?_) this
    have hshr : IntKind.u64.wrap (shr .u8 (bt s (i : Int)) (b : Int)) = ((bt s (i : Int)).toNat / 2 ^ b : Nat) := by
      have h1 : shr .u8 (bt s (i : Int)) (b : Int) = bt s (i : Int) / 2 ^ b := by
        unfold shr
        rw [Int.toNat_natCast, Nat.min_eq_left (by simp [IntKind.bits]; omega)]
      have h2 : bt s (i : Int) / 2 ^ b = ((bt s (i : Int)).toNat / 2 ^ b : Nat) := by
        have : (((bt s (i : Int)).toNat : Nat) : Int) = bt s (i : Int) := Int.toNat_of_nonneg hc.1
        conv => lhs; rw [← this]
        norm_cast
      rw [h1, h2]
      refine uw _ ⟨Int.natCast_nonneg _, ?_⟩
      have h3 : (((bt s (i : Int)).toNat / 2 ^ b : Nat) : Int) ≤ ((bt s (i : Int)).toNat : Int) := Int.ofNat_le.2 (Nat.div_le_self _ _)
      omega
    generalize hX : stn b (r ^^^ lowN (bt s (i : Int)) b) = X
    have hx := i64_range X
    have t1 : Int.tmod (I64 X) 2 = ((X.toNat % 2 : Nat) : Int) := by
      rw [Int.tmod_eq_emod_of_nonneg hx.1]
      unfold I64
      omega
    have t2 : ∀ n : Nat, Int.tmod (n : Int) 2 = ((n % 2 : Nat) : Int) := by
      intro n
      rw [Int.tmod_eq_emod_of_nonneg (by omega)]
      omega
    have t3 : IntKind.u64.wrap (Int.tdiv (I64 X) 2) = I64 (X >>> 1) := by
      rw [Int.tdiv_eq_ediv_of_nonneg hx.1, div2_is]
      exact uw _ (i64_range _)
    have hb2 : (bt s (i : Int)).toNat / 2 ^ b % 2 < 2 := Nat.mod_lt _ (by decide)
    have hst := st_bit X _ hb2
    rw [ententeref02_Sum.l1, if_pos (by omega), if_pos (by omega), if_pos (by omega), if_pos (by omega), hshr, t1, t2, t3, wr ((b : Int) + 1) (by omega)]
    show _ = ententeref02_Sum.l1 k s (I64 (st (X ^^^ BitVec.ofNat 64 ((bt s (i : Int)).toNat / 2 ^ b % 2)))) (i : Int) ((b + 1 : Nat) : Int)
    rw [hst]
    by_cases g : X.toNat % 2 = (bt s (i : Int)).toNat / 2 ^ b % 2
    · rw [if_pos (by rw [g]), if_pos g]
      rfl
    · rw [if_neg (fun h => g (by exact_mod_cast h)), if_neg g]
      have e : (14514072000185962306 : Int) = I64 poly := by decide
      rw [e, xor_is]
      rfl
theorem rsum_loop (s : ByteArray) (hs : s.size ≤ 140737488351232) (d : Nat) : ∀ (i : Nat) (r : BitVec 64), i + d = s.size →
    Ev (fun k => ententeref02_Sum.l0 k s (I64 r) (i : Int)) (I64 (~~~ crc r ((bytesOf s).drop i))) := by
  induction d with
  | zero =>
    intro i r hi
    refine Ev.step (f := fun _ => some (I64 (~~~ crc r ((bytesOf s).drop i)))) (fun k => ?_) (Ev.now _)
    rw [ententeref02_Sum.l0, if_neg (by omega), List.drop_eq_nil_of_le (by rw [bytesOf_length]; omega)]
    have hr := r.isLt
    show some (IntKind.u64.wrap (18446744073709551615 - I64 r)) = some (I64 (~~~ r))
    rw [uw _ (by unfold I64; omega)]
    unfold I64
    rw [BitVec.toNat_not]
    congr 1
    omega
  | succ d ih =>
    intro i r hi
    have hd : (bytesOf s).drop i = bt s (i : Int) :: (bytesOf s).drop (i + 1) := by
      rw [List.drop_eq_getElem_cons (by rw [bytesOf_length]; omega), bt_nat s i (by omega)]
    rw [hd]
    refine Ev.step (fun k => by rw [ententeref02_Sum.l0, if_pos (by omega)]) ?_
    have := ih (i + 1) (inB r (bt s (i : Int))) (by omega)
    have e0 : stn 0 (r ^^^ lowN (bt s (i : Int)) 0) = r := by
      show r ^^^ lowN (bt s (i : Int)) 0 = r
      unfold lowN
      rw [Nat.pow_zero, Nat.mod_one]
      simp
    have h := rbits_loop s hs i (by omega) r _ (by rw [wr _ (by omega)]; exact this) 8 0 (by omega)
    rw [e0] at h
    exact h
theorem rsum_ev (s : ByteArray) (hs : s.size ≤ 140737488351232) : Ev (fun k => ententeref02_Sum.f k s) (sumS (bytesOf s)) := by
  have := rsum_loop s hs s.size 0 (BitVec.allOnes 64) (by omega)
  rw [List.drop_zero] at this
  exact this
theorem awake_ev : Ev (fun k => ententelaw02_awake.f k) true := Ev.of ententelaw02_awake.mono (k := 60) (by decide +kernel)
theorem awake_ends : Ev (fun k => (ententelaw02_awake.f k).bind fun t => some t) true := Ev.bind (f := fun _ t => some t) awake_ev (Ev.now _)
/-- What is taken at a place: the number, the place behind, the error. -/
def TN (s : ByteArray) (at_ : Int) : Int × Int × Int :=
  if at_ < 0 ∨ at_ > (s.size : Int) then (0, 0, 2) else
    ((tnS ((bytesOf s).drop at_.toNat) 0 0).1, (if (tnS ((bytesOf s).drop at_.toNat) 0 0).2.2 = 0 then at_ + (tnS ((bytesOf s).drop at_.toNat) 0 0).2.1 else 0), (tnS ((bytesOf s).drop at_.toNat) 0 0).2.2)
def rel (a : Int) (r : Int × Int × Int) : Int × Int × Int := (r.1, (if r.2.2 = 0 then a + r.2.1 else 0), r.2.2)
theorem rel_err (a e : Int) (h : e ≠ 0) : rel a (0, 0, e) = (0, 0, e) := by unfold rel; rw [if_neg h]
theorem rel_ok (a n c : Int) : rel a (n, c, 0) = (n, a + c, 0) := by unfold rel; rw [if_pos rfl]
theorem tnS_nil (i : Nat) (n : Int) : tnS [] i n = if i < 10 then (0, 0, 10) else (0, 0, 11) := rfl
theorem tnS_cons (c : Int) (l : List Int) (i : Nat) (n : Int) : tnS (c :: l) i n = if 10 ≤ i then (0, 0, 11) else if i = 9 ∧ c > 1 then (0, 0, 11) else if c ≥ 128 then tnS l (i + 1) (n + c % 128 * 128 ^ i) else if c = 0 ∧ i > 0 then (0, 0, 11) else (n + c * 128 ^ i, i + 1, 0) := rfl
theorem pow7 (i : Nat) : (2 : Int) ^ (7 * i) = 128 ^ i := by rw [Int.pow_mul]; rfl
theorem pow7n (i : Nat) : (2 : Nat) ^ (7 * i) = 128 ^ i := by rw [Nat.pow_mul]
theorem pow_le (i : Nat) (h : i ≤ 9) : (128 : Nat) ^ i ≤ 9223372036854775808 := by
  have := Nat.pow_le_pow_right (show 0 < 128 by decide) h
  have e : (128 : Nat) ^ 9 = 9223372036854775808 := by decide
  omega
/-- Seven bits more. -/
theorem or_more (n c : Int) (i : Nat) (hi : i ≤ 9) (hn : 0 ≤ n ∧ n < 128 ^ i) (hc : 0 ≤ c ∧ c < 256) (h9 : i = 9 → c ≤ 1) :
    Go.bits .or .u64 n (shl .u64 (IntKind.u64.wrap (Go.bits .and .u8 c 127)) (IntKind.u64.wrap (wrap64 (7 * (i : Int))))) = n + c % 128 * 128 ^ i := by
  rw [and127 c hc, uw (c % 128) (by omega), wr (7 * (i : Int)) (by omega), uw (7 * (i : Int)) (by omega)]
  unfold shl
  have e1 : min (7 * (i : Int)).toNat IntKind.u64.bits = 7 * i := by simp [IntKind.bits]; omega
  rw [e1, pow7]
  obtain ⟨m, rfl⟩ := Int.eq_ofNat_of_zero_le hn.1
  obtain ⟨d, hd⟩ := Int.eq_ofNat_of_zero_le (show 0 ≤ c % 128 by omega)
  rw [hd]
  have hp := pow_le i hi
  have hm : m < 128 ^ i := by
    have := hn.2
    have q : ((128 ^ i : Nat) : Int) = (128 : Int) ^ i := by simp
    omega
  have hq : ((d * 128 ^ i : Nat) : Int) = (d : Int) * 128 ^ i := by simp
  have hy : d * 128 ^ i < 18446744073709551616 := by
    by_cases h : i = 9
    · have := h9 h
      have hd1 : d ≤ 1 := by omega
      have : d * 128 ^ i ≤ 1 * 128 ^ i := Nat.mul_le_mul_right _ hd1
      omega
    · have h8 : (128 : Nat) ^ i ≤ 128 ^ 8 := Nat.pow_le_pow_right (by decide) (by omega)
      have e8 : (128 : Nat) ^ 8 = 72057594037927936 := by decide
      have : d * 128 ^ i ≤ 127 * 72057594037927936 := Nat.mul_le_mul (by omega) (by omega)
      omega
  rw [← hq, uw _ (by omega)]
  exact or_join m (d * 128 ^ i) (7 * i) (by rw [pow7n]; exact hm) (by rw [pow7n]; exact Nat.mul_mod_left _ _) (by omega) (by omega)
theorem rd_drop_bt (s : ByteArray) (a : Nat) (h : a < s.size) : (bytesOf s).drop a = bt s (a : Int) :: (bytesOf s).drop (a + 1) := by
  rw [drop_cons _ a (by rw [bytesOf_length]; exact h), rd_bytesOf]
theorem take_loop (s : ByteArray) (hs : s.size ≤ 140737488351232) (a d : Nat) : ∀ (i : Nat) (n : Int), i + d = 10 → a + i ≤ s.size → 0 ≤ n → n < 128 ^ i →
    Ev (fun k => pack_TakeNumber.l0 k s (a : Int) n (i : Int)) (rel (a : Int) (tnS ((bytesOf s).drop (a + i)) i n)) := by
  induction d with
  | zero =>
    intro i n hi ha h0 h1
    refine Ev.step (f := fun _ => some (0, 0, 11)) (fun k => ?_) ?_
    · simp only [pack_TakeNumber.l0]
      rw [if_neg (by omega)]
    · have : rel (a : Int) (tnS ((bytesOf s).drop (a + i)) i n) = (0, 0, 11) := by
        cases (bytesOf s).drop (a + i) with
        | nil => rw [tnS_nil, if_neg (by omega), rel_err _ _ (by decide)]
        | cons c l => rw [tnS_cons, if_pos (by omega), rel_err _ _ (by decide)]
      rw [this]
      exact Ev.now _
  | succ d ih =>
    intro i n hi ha h0 h1
    have w1 : wrap64 ((a : Int) + (i : Int)) = ((a + i : Nat) : Int) := by unfold wrap64; omega
    have w2 : wrap64 ((i : Int) + 1) = ((i + 1 : Nat) : Int) := by unfold wrap64; omega
    have hz : IntKind.u64.wrap (wrap64 (7 * (i : Int))) = 7 * (i : Int) := by rw [wr _ (by omega), uw _ (by omega)]
    by_cases c0 : a + i = s.size
    · refine Ev.step (f := fun _ => some (0, 0, 10)) (fun k => ?_) ?_
      · simp only [pack_TakeNumber.l0]
        rw [if_pos (by omega), w1, if_pos (by omega)]
      · rw [List.drop_eq_nil_of_le (by rw [bytesOf_length]; omega)]
        rw [tnS_nil, if_pos (by omega), rel_err _ _ (by decide)]
        exact Ev.now _
    · have hb := bt_range s ((a + i : Nat) : Int)
      rw [rd_drop_bt s (a + i) (by omega)]
      obtain ⟨c, hc⟩ : ∃ c, bt s ((a + i : Nat) : Int) = c := ⟨_, rfl⟩
      rw [hc] at hb ⊢
      have head : ∀ k, pack_TakeNumber.l0 (k + 1) s (a : Int) n (i : Int) = pack_TakeNumber.j2 k s (a : Int) n (i : Int) c (i : Int) (decide (i = 9 ∧ c > 1)) := fun k => by
        simp only [pack_TakeNumber.l0]
        rw [if_pos (by omega), w1, if_neg (by omega), if_pos (by omega), if_pos (by omega), hc]
        by_cases h9 : i = 9
        · rw [if_pos (by omega)]
          congr 1
          simp [h9]
        · rw [if_neg (by omega)]
          congr 1
          simp [h9]
      by_cases c1 : i = 9 ∧ c > 1
      · refine ev_shift 2 (f := fun _ => some (0, 0, 11)) (fun k => ?_) ?_
        · rw [head, decide_eq_true c1, pack_TakeNumber.j2, if_pos rfl]
        · rw [tnS_cons, if_neg (by omega), if_pos c1, rel_err _ _ (by decide)]
          exact Ev.now _
      · have hm := or_more n c i (by omega) ⟨h0, h1⟩ ⟨hb.1, by omega⟩ (fun h => by omega)
        by_cases c2 : c ≥ 128
        · have hlt : n + c % 128 * 128 ^ i < 128 ^ (i + 1) := by
            have p0 : (0 : Int) ≤ 128 ^ i := by omega
            have : c % 128 * 128 ^ i ≤ 127 * 128 ^ i := Int.mul_le_mul_of_nonneg_right (by omega) p0
            rw [Int.pow_succ]
            omega
          have hge : 0 ≤ n + c % 128 * 128 ^ i := by
            have p0 : (0 : Int) ≤ 128 ^ i := by omega
            have : 0 ≤ c % 128 * 128 ^ i := Int.mul_nonneg (by omega) p0
            omega
          have := ih (i + 1) (n + c % 128 * 128 ^ i) (by omega) (by omega) hge hlt
          rw [tnS_cons, if_neg (by omega), if_neg c1, if_pos c2]
          refine ev_shift 2 (fun k => ?_) this
          rw [head, decide_eq_false c1, pack_TakeNumber.j2, if_neg (by simp), hz, if_pos (by omega), if_pos c2, ← hz, hm, w2]
        · have h128 : c % 128 = c := by omega
          rw [h128] at hm
          rw [tnS_cons, if_neg (by omega), if_neg c1, if_neg c2]
          by_cases c3 : c = 0 ∧ i > 0
          · rw [if_pos c3, rel_err _ _ (by decide)]
            refine ev_shift 2 (f := fun _ => some (0, 0, 11)) (fun k => ?_) (Ev.now _)
            rw [head, decide_eq_false c1, pack_TakeNumber.j2, if_neg (by simp), hz, if_pos (by omega), if_neg c2, if_pos c3.1, if_pos (by omega)]
          · rw [if_neg c3, rel_ok]
            have w3 : wrap64 ((wrap64 ((a : Int) + (i : Int))) + 1) = (a : Int) + ((i : Int) + 1) := by rw [w1]; unfold wrap64; omega
            refine ev_shift 2 (f := fun _ => some (n + c * 128 ^ i, (a : Int) + ((i : Int) + 1), 0)) (fun k => ?_) ?_
            · rw [head, decide_eq_false c1, pack_TakeNumber.j2, if_neg (by simp), if_pos (by rw [hz]; omega), if_neg c2, hm, w3]
              by_cases c4 : c = 0
              · rw [if_pos c4, if_neg (by omega)]
              · rw [if_neg c4]
            · exact Ev.now _
theorem take_ev (s : ByteArray) (hs : s.size ≤ 140737488351232) (a : Int) : Ev (fun k => pack_TakeNumber.f k s a) (TN s a) := by
  have bad : Ev (fun k => pack_TakeNumber.j0 k s a true) (0, 0, 2) := Ev.step (f := fun _ => some (0, 0, 2)) (fun k => by simp only [pack_TakeNumber.j0, if_true]) (Ev.now _)
  by_cases c1 : a < 0
  · have : TN s a = (0, 0, 2) := if_pos (.inl c1)
    rw [this]
    exact Ev.congr (fun k => by unfold pack_TakeNumber.f; rw [if_pos c1]) bad
  by_cases c2 : a > (s.size : Int)
  · have : TN s a = (0, 0, 2) := if_pos (.inr c2)
    rw [this]
    exact Ev.congr (fun k => by unfold pack_TakeNumber.f; rw [if_neg c1, decide_eq_true c2]) bad
  obtain ⟨m, rfl⟩ := Int.eq_ofNat_of_zero_le (show 0 ≤ a by omega)
  have : TN s (m : Int) = rel (m : Int) (tnS ((bytesOf s).drop (m + 0)) 0 0) := if_neg (by omega)
  rw [this]
  refine Ev.congr (f := fun k => pack_TakeNumber.j0 k s (m : Int) false) (fun k => by unfold pack_TakeNumber.f; rw [if_neg c1, decide_eq_false c2]) ?_
  refine Ev.step (fun k => ?_) (take_loop s hs m 10 0 0 (by omega) (by omega) (by omega) (by decide))
  simp only [pack_TakeNumber.j0, Bool.false_eq_true, if_false]
  rfl
theorem tn_facts (s : ByteArray) (hs : s.size ≤ 140737488351232) (a : Int) : (TN s a).2.2 ≠ 0 ∧ (TN s a).1 = 0 ∧ (TN s a).2.1 = 0 ∨ (TN s a).2.2 = 0 ∧ 0 ≤ (TN s a).1 ∧ (TN s a).1 < 18446744073709551616 ∧ 0 ≤ a ∧ a < (TN s a).2.1 ∧ (TN s a).2.1 ≤ (s.size : Int) := by
  by_cases c : a < 0 ∨ a > (s.size : Int)
  · have : TN s a = (0, 0, 2) := if_pos c
    rw [this]; left; simp
  · have e : TN s a = rel a (tnS ((bytesOf s).drop a.toNat) 0 0) := if_neg c
    rw [e]
    rcases tnS_err ((bytesOf s).drop a.toNat) 0 0 with h | ⟨h1, h2, h3⟩
    · right
      obtain ⟨m, r, h4, h5, h6, h7, h8⟩ := tnS_ok _ (fun x hx => bytesOf_byte s x (List.mem_of_mem_drop hx)) h
      rw [h7]
      have hl := congrArg List.length h4
      rw [List.length_drop, bytesOf_length, List.length_append] at hl
      have hp : 1 ≤ m.length := by
        match m, h5 with
        | [], h5 => exact absurd h5 (by simp [Canon])
        | x :: m, _ => simp
      have hv := valS_nonneg m
      rw [rel_ok]
      exact ⟨rfl, hv, h8, by show 0 ≤ a; omega, by show a < a + (m.length : Int); omega, by show a + (m.length : Int) ≤ _; omega⟩
    · left
      have h4 : (tnS ((bytesOf s).drop a.toNat) 0 0).2.2 ≠ 0 := by omega
      exact ⟨h4, h1, if_neg h4⟩
/-- How far value goes. -/
theorem valS_drop_le (l : List Int) (j : Nat) : valS (l.drop j) ≤ valS l := by
  induction j generalizing l with
  | zero => simp
  | succ j ih =>
    match l with
    | [] => simp
    | x :: l =>
      simp only [List.drop_succ_cons, valS]
      have := ih l
      have := valS_nonneg l
      omega
theorem value_loop (s : ByteArray) (hs : s.size ≤ 1000) (i : Nat) : i < s.size →
    Ev (fun k => ententeref01_value.l0 k s (valS ((bytesOf s).drop (i + 1))) (i : Int)) (if valS ((bytesOf s).drop 1) ≤ 144115188075855871 then (valS (bytesOf s), true) else (0, false)) := by
  induction i with
  | zero =>
    intro hi
    show Ev (fun k => ententeref01_value.l0 k s (valS ((bytesOf s).drop 1)) 0) _
    have hv := valS_nonneg ((bytesOf s).drop 1)
    by_cases c : valS ((bytesOf s).drop 1) ≤ 144115188075855871
    · rw [if_pos c]
      have hb := bt_range s 0
      have e0 := rd_drop_bt s 0 hi
      rw [List.drop_zero] at e0
      have ev : valS (bytesOf s) = bt s 0 % 128 + 128 * valS ((bytesOf s).drop 1) := by
        conv => lhs; rw [e0]
        rfl
      refine ev_shift 2 (f := fun _ => some (valS (bytesOf s), true)) (fun k => ?_) (Ev.now _)
      rw [ententeref01_value.l0, if_pos (by omega), if_neg (by omega), if_pos (by omega), if_pos (by omega)]
      have t1 : Int.tmod (bt s 0) 128 = bt s 0 % 128 := Int.tmod_eq_emod_of_nonneg hb.1
      rw [t1, uw (128 * valS ((bytesOf s).drop 1)) (by omega), uw (bt s 0 % 128) (by omega), uw _ (by omega), wr ((0 : Int) - 1) (by omega), ententeref01_value.l0, if_neg (by omega), ev]
      congr 2
      omega
    · rw [if_neg c]
      refine Ev.step (f := fun _ => some (0, false)) (fun k => ?_) (Ev.now _)
      rw [ententeref01_value.l0, if_pos (by omega), if_pos (by omega)]
  | succ i ih =>
    intro hi
    have hv := valS_nonneg ((bytesOf s).drop (i + 1 + 1))
    by_cases c : valS ((bytesOf s).drop (i + 1 + 1)) > 144115188075855871
    · have h1 := valS_drop_le ((bytesOf s).drop 1) (i + 1)
      rw [List.drop_drop, show 1 + (i + 1) = i + 1 + 1 by omega] at h1
      rw [if_neg (by omega)]
      refine Ev.step (f := fun _ => some (0, false)) (fun k => ?_) (Ev.now _)
      rw [ententeref01_value.l0, if_pos (by omega), if_pos c]
    · have hb := bt_range s ((i + 1 : Nat) : Int)
      have e0 := rd_drop_bt s (i + 1) hi
      have ev : valS ((bytesOf s).drop (i + 1)) = bt s ((i + 1 : Nat) : Int) % 128 + 128 * valS ((bytesOf s).drop (i + 1 + 1)) := by
        rw [e0]; rfl
      refine Ev.step (fun k => ?_) (ih (by omega))
      rw [ententeref01_value.l0, if_pos (by omega), if_neg c, if_pos (by omega), if_pos (by omega)]
      have t1 : Int.tmod (bt s ((i + 1 : Nat) : Int)) 128 = bt s ((i + 1 : Nat) : Int) % 128 := Int.tmod_eq_emod_of_nonneg hb.1
      rw [t1, uw (128 * valS ((bytesOf s).drop (i + 1 + 1))) (by omega), uw (bt s ((i + 1 : Nat) : Int) % 128) (by omega), uw _ (by omega), show wrap64 (((i + 1 : Nat) : Int) - 1) = (i : Int) by unfold wrap64; omega, ev]
      congr 1
      omega
theorem value_ev (s : ByteArray) (hs : s.size ≤ 1000) (h1 : 1 ≤ s.size) : Ev (fun k => ententeref01_value.f k s) (if valS ((bytesOf s).drop 1) ≤ 144115188075855871 then (valS (bytesOf s), true) else (0, false)) := by
  have := value_loop s hs (s.size - 1) (by omega)
  rw [List.drop_eq_nil_of_le (by rw [bytesOf_length]; omega)] at this
  refine Ev.congr (fun k => ?_) this
  unfold ententeref01_value.f
  rw [show wrap64 ((s.size : Int) - 1) = ((s.size - 1 : Nat) : Int) by unfold wrap64; omega]
  rfl
/-- The first bytes, cut out. -/
theorem piece_bytes (s : ByteArray) (a : Nat) (p r : List Int) (h : (bytesOf s).drop a = p ++ r) : bytesOf (s.extract a (a + p.length)) = p := by
  rw [bytesOf_extract, List.drop_take, h, Nat.add_sub_cancel_left, List.take_left]
theorem rtake_stop (s : ByteArray) (hs : s.size ≤ 140737488351232) (a : Nat) (p : List Int) (c : Int) (r : List Int) (hp : High p) (hl : p.length ≤ 9) (hc : 0 ≤ c ∧ c < 128) (e : (bytesOf s).drop a = p ++ c :: r) :
    Ev (fun k => ententeref01_TakeNumber.j2 k s (a : Int) ((a + p.length : Nat) : Int) false) (rel (a : Int) (tnS ((bytesOf s).drop a) 0 0)) := by
  have hlen := congrArg List.length e
  rw [List.length_drop, bytesOf_length, List.length_append, List.length_cons] at hlen
  have w1 : wrap64 (((a + p.length : Nat) : Int) + 1) = ((a + p.length + 1 : Nat) : Int) := by unfold wrap64; omega
  have e' : (bytesOf s).drop a = (p ++ [c]) ++ r := by rw [e]; simp
  have hpb := piece_bytes s a (p ++ [c]) r e'
  rw [List.length_append, List.length_singleton, ← Nat.add_assoc] at hpb
  obtain ⟨q, hq⟩ : ∃ q, s.extract a (a + p.length + 1) = q := ⟨_, rfl⟩
  rw [hq] at hpb
  have hqs : q.size = p.length + 1 := by rw [← size_bytesOf, hpb]; simp
  have hv := value_ev q (by omega) (by omega)
  rw [hpb] at hv
  rw [e, tnS_stop p c r hp hl hc]
  have big : (∀ k, ententeref01_TakeNumber.j2 (k + 1) s (a : Int) ((a + p.length : Nat) : Int) false = ((ententeref01_value.f k q).bind fun bt149 => (if bt149.2 = true then ((ententeref01_Number.f k bt149.1).bind fun t151 => (if t151.toList = q.toList then (some (bt149.1, ((a + p.length + 1 : Nat) : Int), 0)) else (some (0, 0, 11)))) else (some (0, 0, 11))))) := fun k => by
    rw [ententeref01_TakeNumber.j2, if_neg (by simp), if_neg (by omega), if_pos (by omega), w1, if_pos (by omega), if_pos (by omega), Int.toNat_natCast, Int.toNat_natCast, hq]
  refine Ev.step big ?_
  refine Ev.bind hv ?_
  by_cases c1 : p.length = 9 ∧ c > 1
  · rw [if_pos c1, if_neg]
    · exact Ev.congr (fun k => if_neg (by simp)) (Ev.now _)
    · obtain ⟨x, p', rfl⟩ : ∃ x p', p = x :: p' := by
        cases p with
        | nil => simp at c1
        | cons x p' => exact ⟨x, p', rfl⟩
      simp only [List.cons_append, List.drop_succ_cons, List.drop_zero]
      rw [valS_append, valS_one c hc]
      have h8 : p'.length = 8 := by simp at c1; omega
      rw [h8, show (128 : Int) ^ 8 = 72057594037927936 by decide]
      have := valS_nonneg p'
      omega
  · rw [if_neg c1]
    have okv : valS ((p ++ [c]).drop 1) ≤ 144115188075855871 := by
      cases p with
      | nil => simp [valS]
      | cons x p' =>
        simp only [List.cons_append, List.drop_succ_cons, List.drop_zero]
        rw [valS_append, valS_one c hc]
        have hv := valS_lt p'
        have h8 : p'.length ≤ 8 := by simp at hl; omega
        by_cases h8' : p'.length = 8
        · have e8 : (128 : Int) ^ p'.length = 72057594037927936 := by rw [h8']; decide
          rw [e8] at hv ⊢
          have : c ≤ 1 := by rw [List.length_cons] at c1; omega
          omega
        · have hm : (128 : Nat) ^ p'.length ≤ 128 ^ 7 := Nat.pow_le_pow_right (by decide) (by omega)
          have q7 : ((128 ^ p'.length : Nat) : Int) ≤ ((128 ^ 7 : Nat) : Int) := by exact_mod_cast hm
          have q8 : ((128 ^ p'.length : Nat) : Int) = (128 : Int) ^ p'.length := by simp
          have q9 : ((128 ^ 7 : Nat) : Int) = 562949953421312 := by decide
          have hn := valS_nonneg p'
          have : (128 : Int) ^ p'.length * c ≤ 562949953421312 * 127 := Int.mul_le_mul (by omega) (by omega) hc.1 (by decide)
          omega
    rw [if_pos okv]
    refine Ev.congr (fun k => if_pos rfl) ?_
    have hval : 0 ≤ valS (p ++ [c]) ∧ valS (p ++ [c]) < 18446744073709551616 := by
      refine ⟨valS_nonneg _, ?_⟩
      have : valS (p ++ [c]) ≤ 127 + 128 * valS ((p ++ [c]).drop 1) := by
        cases p with
        | nil => simp only [List.nil_append, List.drop_succ_cons, List.drop_zero, valS]; omega
        | cons x p' => simp only [List.cons_append, List.drop_succ_cons, List.drop_zero, valS]; omega
      omega
    refine Ev.bind (rnumber_ev _ hval) ?_
    have eqv : (Nm (valS (p ++ [c]))).toList = q.toList ↔ numS (valS (p ++ [c])).toNat = p ++ [c] := by
      rw [toList_iff]
      constructor
      · intro h
        have := congrArg bytesOf h
        rwa [nm_bytes, hpb] at this
      · intro h
        exact bytesOf_inj (by rw [nm_bytes, hpb, h])
    by_cases c2 : c = 0 ∧ p.length > 0
    · rw [if_pos c2]
      refine Ev.congr (fun k => if_neg ?_) (Ev.now _)
      intro h
      have h2 := eqv.1 h
      have h3 := canon_numS (valS (p ++ [c])).toNat
      rw [h2] at h3
      obtain ⟨p2, d, e2, _, _, _, hd⟩ := canon_parts _ h3
      have e3 := List.append_inj' e2 rfl
      have e4 : c = d := by simpa using e3.2
      rcases hd with hd | hd
      · omega
      · rw [hd] at e3; rw [e3.1] at c2; simp at c2
    · rw [if_neg c2]
      refine Ev.congr (f := fun _ => some (valS (p ++ [c]), ((a + p.length + 1 : Nat) : Int), 0)) (fun k => if_pos (eqv.2 (canon_val _ (canon_snoc p c hp hc ?_)))) ?_
      · rcases Decidable.em (c = 0) with c0 | c0
        · exact .inr (List.eq_nil_of_length_eq_zero (by omega))
        · exact .inl c0
      · rw [rel_ok]
        rw [show ((a + p.length + 1 : Nat) : Int) = (a : Int) + ((p.length : Int) + 1) by omega]
        exact Ev.now _
/-- The loop goes over what is 128 and more. -/
theorem rtake_walk (s : ByteArray) (hs : s.size ≤ 140737488351232) (a : Nat) (q : List Int) : ∀ (j : Nat) (r : List Int) (res : Int × Int × Int), High q → j + q.length ≤ 9 → (bytesOf s).drop (a + j) = q ++ r →
    Ev (fun k => ententeref01_TakeNumber.l0 k s (a : Int) ((a + j + q.length : Nat) : Int)) res → Ev (fun k => ententeref01_TakeNumber.l0 k s (a : Int) ((a + j : Nat) : Int)) res := by
  induction q with
  | nil => intro j r res _ _ _ h; simpa using h
  | cons x q ih =>
    intro j r res hq hl e h
    have hx := hq x (List.mem_cons_self ..)
    simp only [List.length_cons] at hl h
    have hlen := congrArg List.length e
    rw [List.length_drop, bytesOf_length, List.length_append, List.length_cons] at hlen
    have hb := rd_drop_bt s (a + j) (by omega)
    rw [e, List.cons_append] at hb
    simp only [List.cons.injEq] at hb
    have := ih (j + 1) r res (fun y hy => hq y (List.mem_cons_of_mem _ hy)) (by omega) hb.2.symm (by rw [show a + (j + 1) + q.length = a + j + (q.length + 1) by omega]; exact h)
    refine ev_shift 2 (fun k => ?_) this
    rw [ententeref01_TakeNumber.l0, if_pos (by omega), if_pos (by omega), ← hb.1, decide_eq_true (by omega), ententeref01_TakeNumber.j2, if_pos rfl]
    rw [show wrap64 (((a + j : Nat) : Int) + 1) = ((a + (j + 1) : Nat) : Int) by unfold wrap64; omega, show wrap64 (((a + (j + 1) : Nat) : Int) - (a : Int)) = ((j + 1 : Nat) : Int) by unfold wrap64; omega, if_neg (by omega)]
theorem rtake_ev (s : ByteArray) (hs : s.size ≤ 140737488351232) (a : Int) : Ev (fun k => ententeref01_TakeNumber.f k s a) (TN s a) := by
  have bad : Ev (fun k => ententeref01_TakeNumber.j0 k s a true) (0, 0, 2) := Ev.step (f := fun _ => some (0, 0, 2)) (fun k => by simp only [ententeref01_TakeNumber.j0, if_true]) (Ev.now _)
  by_cases c1 : a < 0
  · have : TN s a = (0, 0, 2) := if_pos (.inl c1)
    rw [this]
    exact Ev.congr (fun k => by unfold ententeref01_TakeNumber.f; rw [if_pos c1]) bad
  by_cases c2 : a > (s.size : Int)
  · have : TN s a = (0, 0, 2) := if_pos (.inr c2)
    rw [this]
    exact Ev.congr (fun k => by unfold ententeref01_TakeNumber.f; rw [if_neg c1, decide_eq_true c2]) bad
  obtain ⟨m, rfl⟩ := Int.eq_ofNat_of_zero_le (show 0 ≤ a by omega)
  have et : TN s (m : Int) = rel (m : Int) (tnS ((bytesOf s).drop m) 0 0) := if_neg (by omega)
  rw [et]
  refine Ev.congr (f := fun k => ententeref01_TakeNumber.j0 k s (m : Int) false) (fun k => by unfold ententeref01_TakeNumber.f; rw [if_neg c1, decide_eq_false c2]) ?_
  refine Ev.step (f := fun k => ententeref01_TakeNumber.l0 k s (m : Int) ((m + 0 : Nat) : Int)) (fun k => by simp only [ententeref01_TakeNumber.j0, Bool.false_eq_true, if_false]; rfl) ?_
  rcases high_split ((bytesOf s).drop m) (fun x hx => bytesOf_byte s x (List.mem_of_mem_drop hx)) with ⟨p, r, e, hp, hl⟩ | ⟨p, e, hp, hl⟩ | ⟨p, c, r, e, hp, hl, hc⟩
  · obtain ⟨q, x, rfl⟩ : ∃ q x, p = q ++ [x] := ⟨p.dropLast, p.getLast (by intro e; rw [e] at hl; simp at hl), (List.dropLast_concat_getLast _).symm⟩
    have hx := hp x (by simp)
    rw [List.length_append, List.length_singleton] at hl
    have hlen := congrArg List.length e
    rw [List.length_drop, bytesOf_length, List.length_append, List.length_append, List.length_singleton] at hlen
    refine rtake_walk s hs m q 0 (x :: r) _ (fun y hy => hp y (by simp [hy])) (by omega) (by rw [Nat.add_zero, e]; simp) ?_
    have hd : (bytesOf s).drop (m + 0 + q.length) = x :: r := by
      rw [Nat.add_zero, ← List.drop_drop, e, List.append_assoc, List.drop_left]; rfl
    have hb := rd_drop_bt s (m + 0 + q.length) (by omega)
    rw [hd] at hb
    simp only [List.cons.injEq] at hb
    rw [e, tnS_much _ r hp (by rw [List.length_append, List.length_singleton]; exact hl)]
    refine ev_shift 2 (f := fun _ => some (0, 0, 11)) (fun k => ?_) (Ev.now _)
    rw [ententeref01_TakeNumber.l0, if_pos (by omega), if_pos (by omega), ← hb.1, decide_eq_true (by omega), ententeref01_TakeNumber.j2, if_pos rfl]
    rw [show wrap64 (((m + 0 + q.length : Nat) : Int) + 1) = ((m + q.length + 1 : Nat) : Int) by unfold wrap64; omega, show wrap64 (((m + q.length + 1 : Nat) : Int) - (m : Int)) = ((q.length + 1 : Nat) : Int) by unfold wrap64; omega, if_pos (by omega)]
  · have hlen := congrArg List.length e
    rw [List.length_drop, bytesOf_length] at hlen
    refine rtake_walk s hs m p 0 [] _ hp (by omega) (by rw [Nat.add_zero, e, List.append_nil]) ?_
    rw [e, tnS_end p hp hl]
    refine ev_shift 2 (f := fun _ => some (0, 0, 10)) (fun k => ?_) (Ev.now _)
    rw [ententeref01_TakeNumber.l0, if_neg (by omega), ententeref01_TakeNumber.j2, if_neg (by simp), if_pos (by omega)]
  · have hlen := congrArg List.length e
    rw [List.length_drop, bytesOf_length, List.length_append, List.length_cons] at hlen
    refine rtake_walk s hs m p 0 (c :: r) _ hp (by omega) (by rw [Nat.add_zero, e]) ?_
    have hd : (bytesOf s).drop (m + 0 + p.length) = c :: r := by
      rw [Nat.add_zero, ← List.drop_drop, e, List.drop_left]
    have hb := rd_drop_bt s (m + 0 + p.length) (by omega)
    rw [hd] at hb
    simp only [List.cons.injEq] at hb
    refine Ev.step (fun k => ?_) (rtake_stop s hs m p c r hp hl hc e)
    rw [ententeref01_TakeNumber.l0, if_pos (by omega), if_pos (by omega), ← hb.1, decide_eq_false (by omega), Nat.add_zero]
/-! Frames: what Seal makes, what Open tells. -/
abbrev E0 : ByteArray := ⟨#[]⟩
def eightS (n : Int) : List Int := [n % 256, n / 256 % 256, n / 65536 % 256, n / 16777216 % 256, n / 4294967296 % 256, n / 1099511627776 % 256, n / 281474976710656 % 256, n / 72057594037927936 % 256]
theorem eightS_byte (n : Int) : ∀ x ∈ eightS n, Byte x := by
  intro x hx
  unfold eightS at hx
  simp only [List.mem_cons, List.not_mem_nil, or_false] at hx
  unfold Byte
  omega
def eightB (n : Int) : ByteArray := strOfNums (eightS n)
theorem eightB_bytes (n : Int) : bytesOf (eightB n) = eightS n := bytesOf_nums _ (eightS_byte n)
theorem eightB_size (n : Int) : (eightB n).size = 8 := by rw [← size_bytesOf, eightB_bytes]; rfl
/-- A frame without its sum. -/
def hdB (v : Int) (body : ByteArray) : ByteArray := strOfNums [231, v % 256] ++ Tx body
theorem hd_two (v : Int) : bytesOf (strOfNums [231, v % 256]) = [231, v % 256] := by
  refine bytesOf_nums _ (fun x hx => ?_)
  simp only [List.mem_cons, List.not_mem_nil, or_false] at hx
  unfold Byte
  omega
theorem hd_bytes (v : Int) (body : ByteArray) : bytesOf (hdB v body) = 231 :: v % 256 :: (numS body.size ++ bytesOf body) := by
  unfold hdB Tx
  rw [bytesOf_append, bytesOf_append, hd_two, nm_bytes, Int.toNat_natCast]
  rfl
theorem two_size (v : Int) : (strOfNums [231, v % 256]).size = 2 := by rw [← size_bytesOf, hd_two]; rfl
theorem hd_size (v : Int) (body : ByteArray) (h : body.size ≤ 140737488351232) : (hdB v body).size ≤ body.size + 12 := by
  unfold hdB
  rw [size_app, two_size]
  have := tx_size body h
  omega
def SEAL (v : Int) (body : ByteArray) : ByteArray × Int :=
  if v < 0 ∨ v > 255 then (E0, 2) else if (body.size : Int) > 30000 then (E0, 3) else (hdB v body ++ eightB (sumS (bytesOf (hdB v body))), 0)
theorem cat_one (s : ByteArray) : cat [s] = s := by simp only [cat]; exact app_empty s
theorem seal_ev (v : Int) (body : ByteArray) : Ev (fun k => seal_Seal.f k v body) (SEAL v body) := by
  have bad : Ev (fun k => seal_Seal.j0 k v body true) (E0, 2) := Ev.step (f := fun _ => some (E0, 2)) (fun k => by rw [seal_Seal.j0, if_pos rfl]) (Ev.now _)
  unfold seal_Seal.f SEAL
  by_cases c1 : v < 0
  · rw [if_pos (.inl c1)]
    exact Ev.congr (fun k => if_pos c1) bad
  · refine Ev.congr (fun k => if_neg c1) ?_
    by_cases c2 : v > 255
    · rw [if_pos (.inr c2), decide_eq_true c2]
      exact bad
    · rw [if_neg (by omega), decide_eq_false c2]
      by_cases c3 : (body.size : Int) > 30000
      · rw [if_pos c3]
        exact Ev.step (f := fun _ => some (E0, 3)) (fun k => by rw [seal_Seal.j0, if_neg (by decide), if_pos c3]) (Ev.now _)
      · rw [if_neg c3]
        have ht := tx_size body (by omega)
        have h2 := two_size v
        have hh := hd_size v body (by omega)
        refine Ev.step (fun k => by rw [seal_Seal.j0, if_neg (by decide), if_neg c3]) ?_
        simp only [Option.bind_some]
        refine Ev.bind (text_ev body (by omega)) ?_
        refine Ev.congr (fun k => if_pos (by omega)) ?_
        have hs := sum_ev [hdB v body] (fun s hs => by rw [List.mem_singleton] at hs; subst hs; omega) (by simp)
        rw [cat_one] at hs
        refine Ev.bind hs ?_
        have h8 : seal_eight.f (sumS (bytesOf (hdB v body))) = some (eightB (sumS (bytesOf (hdB v body)))) := rfl
        have h9 := eightB_size (sumS (bytesOf (hdB v body)))
        have hx : (strOfNums [231, v % 256] ++ Tx body).size ≤ body.size + 12 := hh
        refine Ev.congr (f := fun _ => some (hdB v body ++ eightB (sumS (bytesOf (hdB v body))), 0)) (fun k => ?_) (Ev.now _)
        rw [h8, Option.bind_some, if_pos (by omega)]
        rfl
/-- What Open tells. -/
def OP (s : ByteArray) (a v : Int) : ByteArray × Int × Int :=
  if a < 0 ∨ a > (s.size : Int) ∨ v < 0 ∨ v > 255 then (E0, 0, 2)
  else if a = (s.size : Int) then (E0, 0, 10)
  else if bt s a = 231 then
    if a + 1 = (s.size : Int) then (E0, 0, 10)
    else if bt s (a + 1) = v then
      if (TN s (a + 2)).2.2 = 0 then
        if (TN s (a + 2)).1 > 30000 then (E0, 0, 3)
        else if (TN s (a + 2)).1 + 8 > (s.size : Int) - (TN s (a + 2)).2.1 then (E0, 0, 10)
        else if eightB (sumS (bytesOf (s.extract a.toNat ((TN s (a + 2)).2.1 + (TN s (a + 2)).1).toNat))) = s.extract ((TN s (a + 2)).2.1 + (TN s (a + 2)).1).toNat ((TN s (a + 2)).2.1 + (TN s (a + 2)).1 + 8).toNat
        then (s.extract (TN s (a + 2)).2.1.toNat ((TN s (a + 2)).2.1 + (TN s (a + 2)).1).toNat, (TN s (a + 2)).2.1 + (TN s (a + 2)).1 + 8, 0) else (E0, 0, 22)
      else (E0, 0, (TN s (a + 2)).2.2)
    else (E0, 0, 21)
  else (E0, 0, 20)
theorem extract_size (s : ByteArray) (a b : Nat) : (s.extract a b).size ≤ s.size := by
  rw [← size_bytesOf, bytesOf_extract, List.length_drop, List.length_take, size_bytesOf]
  omega
theorem open_ev (s : ByteArray) (hs : s.size ≤ 1000000000) (a v : Int) : Ev (fun k => seal_Open.f k s a v) (OP s a v) := by
  have bad : Ev (fun k => seal_Open.j0 k s a v true) (E0, 0, 2) := Ev.step (f := fun _ => some (E0, 0, 2)) (fun k => by rw [seal_Open.j0, if_pos rfl]) (Ev.now _)
  unfold seal_Open.f
  by_cases c1 : a < 0
  · rw [show OP s a v = (E0, 0, 2) from if_pos (.inl c1)]
    exact Ev.congr (fun k => if_pos c1) bad
  refine Ev.congr (fun k => if_neg c1) ?_
  by_cases c2 : a > (s.size : Int)
  · rw [show OP s a v = (E0, 0, 2) from if_pos (.inr (.inl c2))]
    exact Ev.congr (fun k => if_pos c2) bad
  refine Ev.congr (fun k => if_neg c2) ?_
  by_cases c3 : v < 0
  · rw [show OP s a v = (E0, 0, 2) from if_pos (.inr (.inr (.inl c3)))]
    exact Ev.congr (fun k => if_pos c3) bad
  refine Ev.congr (fun k => if_neg c3) ?_
  by_cases c4 : v > 255
  · rw [show OP s a v = (E0, 0, 2) from if_pos (.inr (.inr (.inr c4))), decide_eq_true c4]
    exact bad
  rw [decide_eq_false c4]
  unfold OP
  rw [if_neg (by omega)]
  refine Ev.step (fun k => by rw [seal_Open.j0, if_neg (by decide)]) ?_
  by_cases c5 : a = (s.size : Int)
  · rw [if_pos c5]
    exact Ev.congr (fun k => if_pos c5) (Ev.now _)
  rw [if_neg c5]
  refine Ev.congr (fun k => by rw [if_neg c5, if_pos (by omega), if_pos (by omega)]) ?_
  by_cases c6 : bt s a = 231
  · rw [if_pos c6]
    refine Ev.congr (fun k => if_pos c6) ?_
    have w1 : wrap64 (a + 1) = a + 1 := wr _ (by omega)
    have w2 : wrap64 (a + 2) = a + 2 := wr _ (by omega)
    rw [w1, w2]
    by_cases c7 : a + 1 = (s.size : Int)
    · rw [if_pos c7]
      exact Ev.congr (fun k => if_pos c7) (Ev.now _)
    rw [if_neg c7]
    have hb := bt_range s (a + 1)
    rw [wr (bt s (a + 1)) (by omega)]
    refine Ev.congr (fun k => by rw [if_neg c7, if_pos (by omega), if_pos (by omega)]) ?_
    by_cases c8 : bt s (a + 1) = v
    · rw [if_pos c8]
      refine Ev.congr (fun k => if_pos c8) ?_
      refine Ev.bind (take_ev s (by omega) (a + 2)) ?_
      by_cases c9 : (TN s (a + 2)).2.2 = 0
      · rw [if_pos c9]
        refine Ev.congr (fun k => if_pos c9) ?_
        have hf := tn_facts s (by omega) (a + 2)
        rcases hf with hf | ⟨_, f1, f2, f3, f4, f5⟩
        · exact absurd c9 hf.1
        by_cases c10 : (TN s (a + 2)).1 > 30000
        · rw [if_pos c10]
          exact Ev.congr (fun k => if_pos c10) (Ev.now _)
        rw [if_neg c10]
        refine Ev.congr (fun k => if_neg c10) ?_
        rw [wr (TN s (a + 2)).1 (by omega), wr ((TN s (a + 2)).1 + 8) (by omega), wr ((s.size : Int) - (TN s (a + 2)).2.1) (by omega)]
        by_cases c11 : (TN s (a + 2)).1 + 8 > (s.size : Int) - (TN s (a + 2)).2.1
        · rw [if_pos c11]
          exact Ev.congr (fun k => if_pos c11) (Ev.now _)
        rw [if_neg c11]
        rw [wr ((TN s (a + 2)).2.1 + (TN s (a + 2)).1) (by omega), wr ((TN s (a + 2)).2.1 + (TN s (a + 2)).1 + 8) (by omega)]
        refine Ev.congr (fun k => by rw [if_neg c11, if_pos (by omega), if_pos (by omega)]) ?_
        have hsz := extract_size s a.toNat ((TN s (a + 2)).2.1 + (TN s (a + 2)).1).toNat
        have hsum := sum_ev [s.extract a.toNat ((TN s (a + 2)).2.1 + (TN s (a + 2)).1).toNat] (fun t ht => by rw [List.mem_singleton] at ht; subst ht; omega) (by simp)
        rw [cat_one] at hsum
        refine Ev.bind hsum ?_
        have h8 : ∀ n, seal_eight.f n = some (eightB n) := fun _ => rfl
        simp only [h8, Option.bind_some]
        refine Ev.congr (fun k => by rw [if_pos (by omega), if_pos (by omega), if_pos (by omega)]) ?_
        by_cases c12 : eightB (sumS (bytesOf (s.extract a.toNat ((TN s (a + 2)).2.1 + (TN s (a + 2)).1).toNat))) = s.extract ((TN s (a + 2)).2.1 + (TN s (a + 2)).1).toNat ((TN s (a + 2)).2.1 + (TN s (a + 2)).1 + 8).toNat
        · rw [if_pos c12]
          exact Ev.congr (fun k => by rw [if_pos (toList_iff.2 c12), if_pos (by omega), if_pos (by omega)]) (Ev.now _)
        · rw [if_neg c12]
          exact Ev.congr (fun k => if_neg (fun h => c12 (toList_iff.1 h))) (Ev.now _)
      · rw [if_neg c9]
        exact Ev.congr (fun k => if_neg c9) (Ev.now _)
    · rw [if_neg c8]
      exact Ev.congr (fun k => if_neg c8) (Ev.now _)
  · rw [if_neg c6]
    exact Ev.congr (fun k => if_neg c6) (Ev.now _)
theorem eight_step (x : Int) (hx : 0 ≤ x ∧ x < 18446744073709551616) (acc : List Int) (i : Nat) (hi : i < 8) (ha : acc.length ≤ 8) (r : ByteArray)
    (h : Ev (fun k => ententeref02_eight.l0 k (x / 256) (acc ++ [x % 256]) ((i + 1 : Nat) : Int)) r) : Ev (fun k => ententeref02_eight.l0 k x acc (i : Int)) r := by
  refine Ev.step (fun k => ?_) h
  rw [ententeref02_eight.l0, if_pos (by omega), if_pos (by omega), wr _ (by omega), Int.tmod_eq_emod_of_nonneg hx.1, Int.tdiv_eq_ediv_of_nonneg hx.1, uw _ (by omega), Int.emod_emod_of_dvd x (Int.dvd_refl 256)]
  rfl
theorem reight_ev (n : Int) (h : 0 ≤ n ∧ n < 18446744073709551616) : Ev (fun k => ententeref02_eight.f k n) (eightB n) := by
  unfold ententeref02_eight.f
  refine eight_step n h [] 0 (by omega) (by simp) _ ?_
  refine eight_step _ (by omega) _ 1 (by omega) (by simp) _ ?_
  refine eight_step _ (by omega) _ 2 (by omega) (by simp) _ ?_
  refine eight_step _ (by omega) _ 3 (by omega) (by simp) _ ?_
  refine eight_step _ (by omega) _ 4 (by omega) (by simp) _ ?_
  refine eight_step _ (by omega) _ 5 (by omega) (by simp) _ ?_
  refine eight_step _ (by omega) _ 6 (by omega) (by simp) _ ?_
  refine eight_step _ (by omega) _ 7 (by omega) (by simp) _ ?_
  refine Ev.step (f := fun _ => some (eightB n)) (fun k => ?_) (Ev.now _)
  rw [ententeref02_eight.l0, if_neg (by omega)]
  unfold eightB eightS
  congr 2
  simp only [List.nil_append, List.cons_append]
  congr 1
  rw [show n / 256 / 256 = n / 65536 by omega]
  congr 1
  congr 1
  rw [show n / 65536 / 256 = n / 16777216 by omega]
  congr 1
  rw [show n / 16777216 / 256 = n / 4294967296 by omega]
  congr 1
  rw [show n / 4294967296 / 256 = n / 1099511627776 by omega]
  congr 1
  rw [show n / 1099511627776 / 256 = n / 281474976710656 by omega]
  congr 1
  rw [show n / 281474976710656 / 256 = n / 72057594037927936 by omega]
theorem sumS_range (l : List Int) : 0 ≤ sumS l ∧ sumS l < 18446744073709551616 := i64_range _
theorem rseal_ev (v : Int) (body : ByteArray) : Ev (fun k => ententeref02_Seal.f k v body) (SEAL v body) := by
  have bad : Ev (fun k => ententeref02_Seal.j0 k v body true) (E0, 2) := Ev.step (f := fun _ => some (E0, 2)) (fun k => by rw [ententeref02_Seal.j0, if_pos rfl]) (Ev.now _)
  unfold ententeref02_Seal.f SEAL
  by_cases c1 : v < 0
  · rw [if_pos (.inl c1)]
    exact Ev.congr (fun k => if_pos c1) bad
  · refine Ev.congr (fun k => if_neg c1) ?_
    by_cases c2 : v > 255
    · rw [if_pos (.inr c2), decide_eq_true c2]
      exact bad
    · rw [if_neg (by omega), decide_eq_false c2]
      by_cases c3 : (body.size : Int) > 30000
      · rw [if_pos c3]
        exact Ev.step (f := fun _ => some (E0, 3)) (fun k => by rw [ententeref02_Seal.j0, if_neg (by decide), if_pos c3]) (Ev.now _)
      · rw [if_neg c3]
        have ht := tx_size body (by omega)
        have h2 := two_size v
        have hh := hd_size v body (by omega)
        refine Ev.step (fun k => by rw [ententeref02_Seal.j0, if_neg (by decide), if_neg c3]) ?_
        simp only [Option.bind_some]
        refine Ev.bind (rtext_ev body (by omega)) ?_
        refine Ev.congr (fun k => if_pos (by omega)) ?_
        refine Ev.bind (rsum_ev (hdB v body) (by omega)) ?_
        refine Ev.bind (reight_ev _ (sumS_range _)) ?_
        have h9 := eightB_size (sumS (bytesOf (hdB v body)))
        have hx : (strOfNums [231, v % 256] ++ Tx body).size ≤ body.size + 12 := hh
        exact Ev.congr (f := fun _ => some (hdB v body ++ eightB (sumS (bytesOf (hdB v body))), 0)) (fun k => by rw [if_pos (by omega)]; rfl) (Ev.now _)
/-! The document's Open: over the rest. -/
theorem rest_bytes (s : ByteArray) (a : Nat) : bytesOf (s.extract a s.size) = (bytesOf s).drop a := by
  rw [bytesOf_extract, List.take_of_length_le (by rw [size_bytesOf]; omega)]
theorem rest_size (s : ByteArray) (a : Nat) : (s.extract a s.size).size = s.size - a := by
  rw [← size_bytesOf, rest_bytes, List.length_drop, size_bytesOf]
theorem rest_bt (s : ByteArray) (a i : Nat) (h : a + i < s.size) : bt (s.extract a s.size) (i : Int) = bt s ((a : Int) + (i : Int)) := by
  have e : ((a : Int) + (i : Int)) = ((a + i : Nat) : Int) := by omega
  rw [e, bt_nat _ i (by rw [rest_size]; omega), bt_nat _ (a + i) h]
  simp only [rest_bytes]
  rw [List.getElem_drop]
theorem rest_extract (s : ByteArray) (a b c : Nat) : (s.extract a s.size).extract b c = s.extract (a + b) (a + c) := by
  apply bytesOf_inj
  rw [bytesOf_extract, rest_bytes, bytesOf_extract, List.take_drop, List.drop_drop]
/-- A number that is taken stands there as it is laid. -/
theorem tn_parts (s : ByteArray) (a : Nat) (ha : a ≤ s.size) (h : (TN s (a : Int)).2.2 = 0) :
    ∃ R, (bytesOf s).drop a = numS (TN s (a : Int)).1.toNat ++ R ∧ (TN s (a : Int)).2.1 = (a : Int) + ((numS (TN s (a : Int)).1.toNat).length : Int) := by
  have e : TN s (a : Int) = rel (a : Int) (tnS ((bytesOf s).drop a) 0 0) := if_neg (by omega)
  rw [e] at h ⊢
  have h' : (tnS ((bytesOf s).drop a) 0 0).2.2 = 0 := h
  obtain ⟨m, r, h4, h5, h6, h7, h8⟩ := tnS_ok _ (fun x hx => bytesOf_byte s x (List.mem_of_mem_drop hx)) h'
  rw [h7, rel_ok]
  have hc := canon_val m h5
  exact ⟨r, by rw [hc]; exact h4, by rw [hc]⟩
theorem tn_rest (s : ByteArray) (a : Nat) (h : a + 2 ≤ s.size) : (TN (s.extract a s.size) 2).1 = (TN s ((a : Int) + 2)).1 ∧ (TN (s.extract a s.size) 2).2.2 = (TN s ((a : Int) + 2)).2.2 ∧ ((TN s ((a : Int) + 2)).2.2 = 0 → (TN s ((a : Int) + 2)).2.1 = (a : Int) + (TN (s.extract a s.size) 2).2.1) := by
  have e1 : TN s ((a : Int) + 2) = rel ((a : Int) + 2) (tnS ((bytesOf s).drop (a + 2)) 0 0) := by
    unfold TN
    rw [if_neg (by omega), show ((a : Int) + 2).toNat = a + 2 by omega]
    rfl
  have e2 : TN (s.extract a s.size) 2 = rel 2 (tnS ((bytesOf s).drop (a + 2)) 0 0) := by
    unfold TN
    have hz := rest_size s a
    rw [if_neg (by omega), rest_bytes, List.drop_drop]
    rfl
  rw [e1, e2]
  unfold rel
  refine ⟨rfl, rfl, fun h0 => ?_⟩
  have h1 : (tnS ((bytesOf s).drop (a + 2)) 0 0).2.2 = 0 := h0
  show (if (tnS ((bytesOf s).drop (a + 2)) 0 0).2.2 = 0 then (a : Int) + 2 + _ else 0) = (a : Int) + (if (tnS ((bytesOf s).drop (a + 2)) 0 0).2.2 = 0 then 2 + _ else 0)
  rw [if_pos h1, if_pos h1]
  omega
/-- What stands ahead of the sum is the frame's begin. -/
theorem frame_is (s : ByteArray) (a n f : Nat) (v : Int) (hv : 0 ≤ v ∧ v ≤ 255) (ha : a + 2 ≤ s.size) (h0 : bt s (a : Int) = 231) (h1 : bt s ((a : Int) + 1) = v)
    (hk : (TN s ((a : Int) + 2)).2.2 = 0) (hn : (TN s ((a : Int) + 2)).1 = (n : Int)) (hf : (TN s ((a : Int) + 2)).2.1 = (f : Int)) (hl : f + n ≤ s.size) :
    s.extract a (f + n) = hdB v (s.extract f (f + n)) ∧ (s.extract f (f + n)).size = n := by
  have e2 : ((a : Int) + 2) = ((a + 2 : Nat) : Int) := by omega
  rw [e2] at hk hn hf
  obtain ⟨R, hR, hp⟩ := tn_parts s (a + 2) ha hk
  rw [hn, Int.toNat_natCast] at hR hp
  rw [hf] at hp
  have hD : (bytesOf s).drop a = 231 :: v :: (bytesOf s).drop (a + 2) := by
    rw [List.drop_eq_getElem_cons (by rw [size_bytesOf]; omega), ← bt_nat s a (by omega), h0, List.drop_eq_getElem_cons (i := a + 1) (by rw [size_bytesOf]; omega), ← bt_nat s (a + 1) (by omega)]
    rw [show (((a + 1 : Nat) : Int)) = (a : Int) + 1 by omega, h1]
  have hDf : (bytesOf s).drop f = R := by
    have : (bytesOf s).drop f = ((bytesOf s).drop (a + 2)).drop (numS n).length := by rw [List.drop_drop]; congr 1; omega
    rw [this, hR, List.drop_left]
  have hbody : bytesOf (s.extract f (f + n)) = R.take n := by
    rw [bytesOf_extract, List.drop_take, hDf]
    congr 1
    omega
  have hRl : n ≤ R.length := by
    rw [← hDf, List.length_drop, size_bytesOf]
    omega
  have hsz : (s.extract f (f + n)).size = n := by
    rw [← size_bytesOf, hbody, List.length_take]
    omega
  refine ⟨?_, hsz⟩
  apply bytesOf_inj
  rw [hd_bytes, hsz, hbody, bytesOf_extract, List.drop_take, hD, hR, show f + n - a = (numS n).length + n + 2 by omega]
  rw [List.take_succ_cons, List.take_succ_cons, List.take_length_add_append, show v % 256 = v by omega]
theorem ropen_ev (s : ByteArray) (hs : s.size ≤ 1000000000) (a v : Int) : Ev (fun k => ententeref02_Open.f k s a v) (OP s a v) := by
  have bad : Ev (fun k => ententeref02_Open.j0 k s a v true) (E0, 0, 2) := Ev.step (f := fun _ => some (E0, 0, 2)) (fun k => by rw [ententeref02_Open.j0, if_pos rfl]) (Ev.now _)
  unfold ententeref02_Open.f
  by_cases c1 : a < 0
  · rw [show OP s a v = (E0, 0, 2) from if_pos (.inl c1)]
    exact Ev.congr (fun k => if_pos c1) bad
  refine Ev.congr (fun k => if_neg c1) ?_
  by_cases c2 : a > (s.size : Int)
  · rw [show OP s a v = (E0, 0, 2) from if_pos (.inr (.inl c2))]
    exact Ev.congr (fun k => if_pos c2) bad
  refine Ev.congr (fun k => if_neg c2) ?_
  by_cases c3 : v < 0
  · rw [show OP s a v = (E0, 0, 2) from if_pos (.inr (.inr (.inl c3)))]
    exact Ev.congr (fun k => if_pos c3) bad
  refine Ev.congr (fun k => if_neg c3) ?_
  by_cases c4 : v > 255
  · rw [show OP s a v = (E0, 0, 2) from if_pos (.inr (.inr (.inr c4))), decide_eq_true c4]
    exact bad
  rw [decide_eq_false c4]
  obtain ⟨m, rfl⟩ := Int.eq_ofNat_of_zero_le (show 0 ≤ a by omega)
  unfold OP
  rw [if_neg (by omega)]
  refine Ev.step (fun k => by rw [ententeref02_Open.j0, if_neg (by decide), if_pos (by omega), if_pos (by omega), Int.toNat_natCast]) ?_
  generalize hR : s.extract m s.size = R
  have hRs : R.size = s.size - m := by rw [← hR, rest_size]
  have hRb : bytesOf R = (bytesOf s).drop m := by rw [← hR, rest_bytes]
  have hempty : R.toList = ([] : List UInt8) ↔ R.size = 0 := by
    have : R.toList = ([] : List UInt8) ↔ R.toList = ByteArray.empty.toList := by rw [show ByteArray.empty.toList = ([] : List UInt8) from by decide +kernel]
    rw [this, toList_iff]
    constructor
    · intro h; rw [h]; rfl
    · intro h
      apply bytesOf_inj
      rw [bytesOf_empty]
      exact List.eq_nil_of_length_eq_zero (by rw [size_bytesOf, h])
  by_cases c5 : (m : Int) = (s.size : Int)
  · rw [if_pos c5]
    exact Ev.congr (fun k => if_pos (hempty.2 (by omega))) (Ev.now _)
  rw [if_neg c5]
  have b0 : bt R 0 = bt s (m : Int) := by
    have := rest_bt s m 0 (by omega)
    rw [hR] at this
    simpa using this
  refine Ev.congr (fun k => by rw [if_neg (fun h => by have := hempty.1 h; omega), if_pos (by omega), b0]) ?_
  by_cases c6 : bt s (m : Int) = 231
  · rw [if_pos c6]
    refine Ev.congr (fun k => if_pos c6) ?_
    by_cases c7 : (m : Int) + 1 = (s.size : Int)
    · rw [if_pos c7]
      exact Ev.congr (fun k => if_pos (by omega)) (Ev.now _)
    rw [if_neg c7]
    have b1 : bt R 1 = bt s ((m : Int) + 1) := by
      have := rest_bt s m 1 (by omega)
      rw [hR] at this
      exact this
    have hb := bt_range s ((m : Int) + 1)
    rw [b1, wr (bt s ((m : Int) + 1)) (by omega)]
    refine Ev.congr (fun k => by rw [if_neg (by omega), if_pos (by omega)]) ?_
    by_cases c8 : bt s ((m : Int) + 1) = v
    · rw [if_pos c8]
      refine Ev.congr (fun k => if_pos c8) ?_
      refine Ev.bind (rtake_ev R (by omega) 2) ?_
      obtain ⟨t1, t2, t3⟩ := tn_rest s m (by omega)
      rw [hR] at t1 t2 t3
      by_cases c9 : (TN s ((m : Int) + 2)).2.2 = 0
      · rw [if_pos c9]
        refine Ev.congr (fun k => if_pos (by rw [t2]; exact c9)) ?_
        have t3 := t3 c9
        rcases tn_facts s (by omega) ((m : Int) + 2) with hf | ⟨_, f1, f2, f3, f4, f5⟩
        · exact absurd c9 hf.1
        rcases tn_facts R (by omega) 2 with hf | ⟨_, g1, g2, g3, g4, g5⟩
        · exact absurd (t2.trans c9) hf.1
        rw [t1]
        by_cases c10 : (TN s ((m : Int) + 2)).1 > 30000
        · rw [if_pos c10]
          exact Ev.congr (fun k => if_pos c10) (Ev.now _)
        rw [if_neg c10]
        refine Ev.congr (fun k => if_neg c10) ?_
        rw [wr (TN s ((m : Int) + 2)).1 (by omega), wr ((TN s ((m : Int) + 2)).1 + 8) (by omega), wr ((R.size : Int) - (TN R 2).2.1) (by omega)]
        by_cases c11 : (TN s ((m : Int) + 2)).1 + 8 > (s.size : Int) - (TN s ((m : Int) + 2)).2.1
        · rw [if_pos c11]
          exact Ev.congr (fun k => if_pos (by omega)) (Ev.now _)
        rw [if_neg c11]
        rw [wr ((TN R 2).2.1 + (TN s ((m : Int) + 2)).1) (by omega), wr ((TN R 2).2.1 + (TN s ((m : Int) + 2)).1 + 8) (by omega)]
        refine Ev.congr (fun k => by rw [if_neg (by omega), if_pos (by omega), if_pos (by omega), if_pos (by omega)]) ?_
        obtain ⟨n, hn⟩ := Int.eq_ofNat_of_zero_le f1
        obtain ⟨f, hf⟩ := Int.eq_ofNat_of_zero_le (show 0 ≤ (TN s ((m : Int) + 2)).2.1 by omega)
        obtain ⟨g, hg⟩ := Int.eq_ofNat_of_zero_le (show 0 ≤ (TN R 2).2.1 by omega)
        have hfg : f = m + g := by omega
        obtain ⟨q1, q2⟩ := frame_is s m n f v (by omega) (by omega) c6 c8 c9 hn hf (by omega)
        rw [hn, hf, hg]
        rw [show ((f : Int) + (n : Int)).toNat = f + n by omega, show ((f : Int) + (n : Int) + 8).toNat = f + n + 8 by omega, show ((g : Int) + (n : Int)).toNat = g + n by omega, show ((g : Int) + (n : Int) + 8).toNat = g + n + 8 by omega, Int.toNat_natCast, Int.toNat_natCast, Int.toNat_natCast]
        have x1 : R.extract g (g + n) = s.extract f (f + n) := by rw [← hR, rest_extract, hfg, Nat.add_assoc]
        have x2 : R.extract 0 (g + n + 8) = hdB v (s.extract f (f + n)) ++ s.extract (f + n) (f + n + 8) := by
          rw [← hR, rest_extract, Nat.add_zero, ← q1, show m + (g + n + 8) = f + n + 8 by omega]
          apply bytesOf_inj
          rw [bytesOf_append, bytesOf_extract, bytesOf_extract, bytesOf_extract]
          have hle : m ≤ f + n := by omega
          have e1 : ((bytesOf s).take (f + n + 8)).drop m = (((bytesOf s).take (f + n + 8)).drop m).take (f + n - m) ++ (((bytesOf s).take (f + n + 8)).drop m).drop (f + n - m) := (List.take_append_drop _ _).symm
          rw [e1]
          congr 1
          · rw [List.take_drop, List.take_take, show min (m + (f + n - m)) (f + n + 8) = f + n by omega]
          · rw [List.drop_drop, show m + (f + n - m) = f + n by omega]
        rw [x1, x2]
        refine Ev.bind (rseal_ev v (s.extract f (f + n))) ?_
        have hS : SEAL v (s.extract f (f + n)) = (hdB v (s.extract f (f + n)) ++ eightB (sumS (bytesOf (hdB v (s.extract f (f + n))))), 0) := by
          unfold SEAL
          rw [if_neg (by omega), if_neg (by omega)]
        rw [hS]
        refine Ev.congr (fun k => by rw [if_pos (by omega), if_pos (by omega)]) ?_
        rw [q1]
        have hcut : (hdB v (s.extract f (f + n)) ++ eightB (sumS (bytesOf (hdB v (s.extract f (f + n))))) = hdB v (s.extract f (f + n)) ++ s.extract (f + n) (f + n + 8)) ↔ eightB (sumS (bytesOf (hdB v (s.extract f (f + n))))) = s.extract (f + n) (f + n + 8) := by
          constructor
          · intro h
            apply bytesOf_inj
            have h2 := congrArg bytesOf h
            rw [bytesOf_append, bytesOf_append] at h2
            exact List.append_cancel_left h2
          · intro h; rw [h]
        have hsz : (hdB v (s.extract f (f + n))).size = f + n - m := by
          rw [← q1, ← size_bytesOf, bytesOf_extract, List.length_drop, List.length_take, size_bytesOf]
          omega
        by_cases c12 : eightB (sumS (bytesOf (hdB v (s.extract f (f + n))))) = s.extract (f + n) (f + n + 8)
        · rw [if_pos c12]
          refine Ev.congr (fun k => if_pos (toList_iff.2 (hcut.2 c12))) ?_
          rw [size_app, hsz, eightB_size, wr _ (by omega)]
          have : (m : Int) + ((f + n - m + 8 : Nat) : Int) = (f : Int) + (n : Int) + 8 := by omega
          rw [this]
          exact Ev.now _
        · rw [if_neg c12]
          exact Ev.congr (fun k => if_neg (fun h => c12 (hcut.1 (toList_iff.1 h)))) (Ev.now _)
      · rw [if_neg c9, ← t2]
        exact Ev.congr (fun k => if_neg (by rw [t2]; exact c9)) (Ev.now _)
    · rw [if_neg c8]
      exact Ev.congr (fun k => if_neg c8) (Ev.now _)
  · rw [if_neg c6]
    exact Ev.congr (fun k => if_neg c6) (Ev.now _)
theorem SealOpens : ententelaw02_SealOpens.Pure := by
  intro s a v h1 h2 h3
  refine Ev.rounds (g := fun k => ententelaw02_SealOpens.f k s a v) ?_
  unfold ententelaw02_SealOpens.f
  by_cases c : (s.size : Int) > 60000
  · exact Ev.congr (fun k => if_pos c) awake_ends
  · refine Ev.congr (fun k => if_neg c) ?_
    refine Ev.bind (open_ev s (by omega) a v) ?_
    refine Ev.bind (ropen_ev s (by omega) a v) ?_
    refine Ev.congr (fun k => if_pos rfl) ?_
    refine Ev.congr (fun k => if_pos rfl) ?_
    exact Ev.congr (fun k => if_pos rfl) awake_ends

end Go.Proofs.Ytfjemhfcdbjolaa.Pure
