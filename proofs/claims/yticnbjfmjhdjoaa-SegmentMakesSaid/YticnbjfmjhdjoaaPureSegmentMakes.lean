/- SegmentMakes: proved for all arguments; no condition. -/
import Derived.Test.YticnbjfmjhdjoaaNum
import Derived.Test.YticnbjfmjhdjoaaPAx7
namespace Go.Proofs.Yticnbjfmjhdjoaa.Pure
open Go.RowKit Go.Proofs.Yticnbjfmjhdjoaa.PA Go.Proofs.YticnbjfmjhdjoaaW.PrintWords Go.Proofs.YticnbjfmjhdjoaaW.PrintLast Go.Proofs.YticnbjfmjhdjoaaW.PrintMore Go.Proofs.Yticnbjfmjhdjoaa.Num
set_option linter.unusedVariables false
set_option linter.unusedSimpArgs false

/-- A number's form. -/
def Nm (n : Int) : ByteArray := strOfNums (numS n.toNat)
theorem nm_bytes (n : Int) : bytesOf (Nm n) = numS n.toNat := bytesOf_nums _ (numS_byte _)
theorem nm_size (n : Int) : (Nm n).size = (numS n.toNat).length := by rw [← size_bytesOf, nm_bytes]
theorem nm_ten (n : Int) (h : 0 ≤ n ∧ n < 18446744073709551616) : 1 ≤ (Nm n).size ∧ (Nm n).size ≤ 10 := by
  rw [nm_size]
  exact ⟨numS_pos _, numS_ten _ (by omega)⟩
theorem number_loop (n : Nat) : ∀ acc : List Int, acc.length + (numS n).length ≤ 1000 → Ev (fun k => pack_Number.l0 k (n : Int) acc) (strOfNums (acc ++ numS n)) := by
  induction n using Nat.strongRecOn with
  | _ n ih =>
    intro acc hl
    have hp := numS_pos n
    by_cases h : n < 128
    · refine Ev.step (f := fun _ => some (strOfNums (acc ++ numS n))) (fun k => ?_) (Ev.now _)
      simp only [pack_Number.l0]
      rw [if_neg (by omega), if_pos (by omega), numS_small h]
      congr 4
      omega
    · have e := numS_big h
      rw [e, List.length_cons] at hl
      have := ih (n / 128) (by omega) (acc ++ [((n % 128 + 128 : Nat) : Int)]) (by rw [List.length_append, List.length_singleton]; omega)
      rw [e]
      rw [List.append_assoc, List.singleton_append] at this
      refine Ev.step (fun k => ?_) this
      simp only [pack_Number.l0]
      rw [if_pos (by omega), if_pos (by omega), or128 _ (by omega)]
      have q1 : (n : Int) / 128 = ((n / 128 : Nat) : Int) := by omega
      have q2 : (n : Int) % 256 % 128 + 128 = ((n % 128 + 128 : Nat) : Int) := by omega
      rw [q1, q2]
theorem number_ev (n : Int) (h : 0 ≤ n ∧ n < 18446744073709551616) : Ev (fun k => pack_Number.f k n) (Nm n) := by
  obtain ⟨m, rfl⟩ := Int.eq_ofNat_of_zero_le h.1
  have := number_loop m [] (by have := numS_ten m (by omega); simp; omega)
  rw [List.nil_append] at this
  exact this
/-- A text's form. -/
def Tx (s : ByteArray) : ByteArray := Nm (s.size : Int) ++ s
theorem size_app (s t : ByteArray) : (s ++ t).size = s.size + t.size := by
  rw [← size_bytesOf, bytesOf_append, List.length_append, size_bytesOf, size_bytesOf]
theorem tx_size (s : ByteArray) (h : s.size ≤ 140737488351232) : (Tx s).size ≤ s.size + 10 := by
  unfold Tx
  have := (nm_ten (s.size : Int) (by omega)).2
  rw [size_app]; omega
theorem text_ev (s : ByteArray) (h : s.size ≤ 140737488351232) : Ev (fun k => pack_Text.f k s) (Tx s) := by
  have hn := nm_ten (s.size : Int) (by omega)
  have hu := uw (s.size : Int) (by omega)
  unfold pack_Text.f
  rw [hu]
  refine Ev.bind (number_ev (s.size : Int) (by omega)) ?_
  refine Ev.congr (f := fun _ => some (Tx s)) (fun k => ?_) (Ev.now _)
  rw [if_pos (by omega)]
  rfl
/-- Texts, one behind the other. -/
def cat : List ByteArray → ByteArray
  | [] => ByteArray.empty
  | s :: l => s ++ cat l
theorem drop_rdOf (l : List ByteArray) (i : Nat) (h : i < l.length) : l.drop i = rdOf ByteArray.empty l (i : Int) :: l.drop (i + 1) := by
  rw [List.drop_eq_getElem_cons h]
  congr 1
  unfold rdOf
  simp [List.getD_eq_getElem?_getD, List.getElem?_eq_getElem h]
theorem app_assoc (a b c : ByteArray) : a ++ b ++ c = a ++ (b ++ c) := bytesOf_inj (by simp only [bytesOf_append, List.append_assoc])
theorem app_empty (a : ByteArray) : a ++ ByteArray.empty = a := bytesOf_inj (by simp only [bytesOf_append, bytesOf_empty, List.append_nil])
theorem rnumber_nat (n : Nat) : n < 18446744073709551616 → Ev (fun k => ententeref01_Number.f k (n : Int)) (strOfNums (numS n)) := by
  induction n using Nat.strongRecOn with
  | _ n ih =>
    intro hn
    by_cases h : n < 128
    · refine Ev.step (f := fun _ => some (strOfNums (numS n))) (fun k => ?_) (Ev.now _)
      simp only [ententeref01_Number.f]
      rw [if_pos (by omega), numS_small h]
      congr 3
      omega
    · have e := numS_big h
      have t1 : Int.tmod (n : Int) 128 = ((n % 128 : Nat) : Int) := by rw [Int.tmod_eq_emod_of_nonneg (by omega)]; omega
      have t2 : Int.tdiv (n : Int) 128 = ((n / 128 : Nat) : Int) := by rw [Int.tdiv_eq_ediv_of_nonneg (by omega)]; omega
      have u1 := uw (((n % 128 : Nat) : Int) + 128) (by omega)
      have u2 := uw (((n / 128 : Nat) : Int)) (by omega)
      have hl := numS_ten (n / 128) (by omega)
      refine Ev.step (f := fun k => (ententeref01_Number.f k ((n / 128 : Nat) : Int)).bind fun t => (if (strOfNums [((n % 128 : Nat) : Int) + 128]).size + t.size ≤ 9223372036854775807 then (some ((strOfNums [((n % 128 : Nat) : Int) + 128]) ++ t)) else (none))) (fun k => ?_) ?_
      · simp only [ententeref01_Number.f]
        rw [if_neg (by omega), t1, t2, u1, u2]
        simp only [Option.bind_some]
        rw [show (((n % 128 : Nat) : Int) + 128) % 256 = ((n % 128 : Nat) : Int) + 128 by omega]
      · refine Ev.bind (ih (n / 128) (by omega) (by omega)) ?_
        refine Ev.congr (f := fun _ => some (strOfNums (numS n))) (fun k => ?_) (Ev.now _)
        rw [if_pos (by rw [strOfNums_size, strOfNums_size]; simp; omega), e, ← Num.nums_append]
        rfl
theorem rnumber_ev (n : Int) (h : 0 ≤ n ∧ n < 18446744073709551616) : Ev (fun k => ententeref01_Number.f k n) (Nm n) := by
  obtain ⟨m, rfl⟩ := Int.eq_ofNat_of_zero_le h.1
  exact rnumber_nat m (by omega)
theorem rtext_ev (s : ByteArray) (h : s.size ≤ 140737488351232) : Ev (fun k => ententeref01_Text.f k s) (Tx s) := by
  have hn := nm_ten (s.size : Int) (by omega)
  have hu := uw (s.size : Int) (by omega)
  unfold ententeref01_Text.f
  rw [hu]
  refine Ev.bind (rnumber_ev (s.size : Int) (by omega)) ?_
  refine Ev.congr (f := fun _ => some (Tx s)) (fun k => ?_) (Ev.now _)
  rw [if_pos (by omega)]
  rfl
/-! The register, as 64 bits. -/
def I64 (x : BitVec 64) : Int := (x.toNat : Int)
def B64 (n : Int) : BitVec 64 := BitVec.ofNat 64 n.toNat
theorem i64_range (x : BitVec 64) : 0 ≤ I64 x ∧ I64 x < 18446744073709551616 := by
  have := x.isLt
  unfold I64
  omega
theorem i64_b64 (n : Int) (h : 0 ≤ n ∧ n < 18446744073709551616) : I64 (B64 n) = n := by
  unfold I64 B64
  rw [BitVec.toNat_ofNat]
  omega
theorem b64_i64 (x : BitVec 64) : B64 (I64 x) = x := by
  unfold I64 B64
  rw [Int.toNat_natCast, BitVec.ofNat_toNat]
  simp
theorem i64_inj {x y : BitVec 64} (h : I64 x = I64 y) : x = y := by rw [← b64_i64 x, h, b64_i64]
theorem ofInt_i64 (x : BitVec 64) : BitVec.ofInt 64 (I64 x) = x := by
  unfold I64
  rw [BitVec.ofInt_natCast, BitVec.ofNat_toNat]
  simp
theorem xor_is (x y : BitVec 64) : Go.bits .xor .u64 (I64 x) (I64 y) = I64 (x ^^^ y) := by
  have h : Go.bits .xor .u64 (I64 x) (I64 y) = IntKind.u64.wrap (((BitVec.ofInt 64 (I64 x) ^^^ BitVec.ofInt 64 (I64 y)).toNat : Nat) : Int) := rfl
  rw [h, ofInt_i64, ofInt_i64]
  exact uw _ (i64_range _)
theorem and_is (x y : BitVec 64) : Go.bits .and .u64 (I64 x) (I64 y) = I64 (x &&& y) := by
  have h : Go.bits .and .u64 (I64 x) (I64 y) = IntKind.u64.wrap (((BitVec.ofInt 64 (I64 x) &&& BitVec.ofInt 64 (I64 y)).toNat : Nat) : Int) := rfl
  rw [h, ofInt_i64, ofInt_i64]
  exact uw _ (i64_range _)
theorem div16_is (x : BitVec 64) : I64 x / (16 : Int) = I64 (x >>> (4 : Nat)) := by
  unfold I64
  rw [BitVec.toNat_ushiftRight, Nat.shiftRight_eq_div_pow]
  omega
theorem div2_is (x : BitVec 64) : I64 x / (2 : Int) = I64 (x >>> (1 : Nat)) := by
  unfold I64
  rw [BitVec.toNat_ushiftRight, Nat.shiftRight_eq_div_pow]
  omega
/-- The polynomial. -/
def poly : BitVec 64 := 14514072000185962306#64
/-- One bit's step. -/
def st (x : BitVec 64) : BitVec 64 := (x >>> 1) ^^^ (if x.getLsbD 0 = true then poly else 0#64)
theorem st_xor (x y : BitVec 64) : st (x ^^^ y) = st x ^^^ st y := by
  unfold st
  rw [BitVec.ushiftRight_xor_distrib, BitVec.getLsbD_xor]
  cases x.getLsbD 0 <;> cases y.getLsbD 0 <;> simp
  · rw [BitVec.xor_assoc]
  · rw [BitVec.xor_assoc, BitVec.xor_assoc, BitVec.xor_comm (y >>> 1) poly]
  · rw [BitVec.xor_assoc (x >>> 1), BitVec.xor_comm poly, BitVec.xor_assoc (y >>> 1), BitVec.xor_self, BitVec.xor_zero]
def stn : Nat → BitVec 64 → BitVec 64
  | 0, x => x
  | n + 1, x => st (stn n x)
theorem stn_xor (n : Nat) (x y : BitVec 64) : stn n (x ^^^ y) = stn n x ^^^ stn n y := by
  induction n with
  | zero => rfl
  | succ n ih => rw [stn, ih, st_xor]; rfl
theorem stn_add (m n : Nat) (x : BitVec 64) : stn m (stn n x) = stn (m + n) x := by
  induction m with
  | zero => rw [Nat.zero_add]; rfl
  | succ m ih => rw [show m + 1 + n = (m + n) + 1 by omega, stn, ih]; rfl
theorem st_even (x : BitVec 64) (h : x.getLsbD 0 = false) : st x = x >>> 1 := by
  unfold st
  rw [h]
  simp
theorem stn_shift (n : Nat) (x : BitVec 64) (h : ∀ i, i < n → x.getLsbD i = false) : stn n x = x >>> n := by
  induction n with
  | zero => simp [stn]
  | succ n ih =>
    rw [stn, ih (fun i hi => h i (by omega)), st_even]
    · rw [BitVec.shiftRight_add]
    · rw [BitVec.getLsbD_ushiftRight, Nat.add_zero]
      exact h n (by omega)
theorem low_high (x : BitVec 64) : x = (x &&& 15#64) ^^^ (x &&& ~~~15#64) := by
  ext i hi
  simp only [BitVec.getElem_xor, BitVec.getElem_and, BitVec.getElem_not]
  cases x[i] <;> cases (15#64)[i] <;> rfl
theorem high_low (x : BitVec 64) : ∀ i, i < 4 → (x &&& ~~~15#64).getLsbD i = false := by
  intro i hi
  have : (~~~15#64).getLsbD i = false := by
    match i with
    | 0 | 1 | 2 | 3 => decide
    | i + 4 => omega
  rw [BitVec.getLsbD_and, this, Bool.and_false]
theorem high_shift (x : BitVec 64) : (x &&& ~~~15#64) >>> 4 = x >>> 4 := by
  rw [BitVec.ushiftRight_and_distrib]
  have : ((~~~15#64) >>> 4 : BitVec 64) = 1152921504606846975#64 := by decide
  rw [this]
  apply BitVec.eq_of_toNat_eq
  rw [BitVec.toNat_and, BitVec.toNat_ushiftRight, Nat.shiftRight_eq_div_pow]
  have h := x.isLt
  have e : (1152921504606846975#64).toNat = 2 ^ 60 - 1 := by decide
  rw [e, Nat.and_two_pow_sub_one_eq_mod, Nat.mod_eq_of_lt (by omega)]
theorem tab_is : ∀ n : Fin 16, rd seal_tab (n.val : Int) = I64 (stn 4 (BitVec.ofNat 64 n.val)) := by decide +kernel
theorem half_is (x : BitVec 64) : seal_half (I64 x) = I64 (stn 4 x) := by
  unfold seal_half
  have e15 : (15 : Int) = I64 15#64 := rfl
  rw [e15, and_is, div16_is]
  have hlt : (x &&& 15#64).toNat < 16 := by
    rw [BitVec.toNat_and]
    have : x.toNat &&& (15#64).toNat ≤ (15#64).toNat := Nat.and_le_right
    have e : (15#64).toNat = 15 := by decide
    omega
  have h := tab_is ⟨(x &&& 15#64).toNat, hlt⟩
  have h2 : BitVec.ofNat 64 (x &&& 15#64).toNat = x &&& 15#64 := by rw [BitVec.ofNat_toNat]; simp
  rw [h2] at h
  rw [show rd seal_tab (I64 (x &&& 15#64)) = I64 (stn 4 (x &&& 15#64)) from h]
  rw [xor_is]
  congr 1
  conv => rhs; rw [low_high x]
  rw [stn_xor, stn_shift 4 _ (high_low x), high_shift, BitVec.xor_comm]
/-- One byte. -/
def inB (r : BitVec 64) (c : Int) : BitVec 64 := stn 8 (r ^^^ B64 c)
def crc (r : BitVec 64) (l : List Int) : BitVec 64 := l.foldl inB r
/-- The sum of bytes. -/
def sumS (l : List Int) : Int := I64 (~~~ crc (BitVec.allOnes 64) l)
theorem max_is : Go.IntKind.u64.max = I64 (BitVec.allOnes 64) := by decide
theorem not_is (x : BitVec 64) : Go.bits .xor .u64 Go.IntKind.u64.max (I64 x) = I64 (~~~ x) := by
  rw [max_is, xor_is, BitVec.allOnes_xor]
theorem byte_is (x : BitVec 64) (c : Int) (hc : 0 ≤ c ∧ c ≤ 255) : seal_half (seal_half (Go.bits .xor .u64 (I64 x) (IntKind.u64.wrap c))) = I64 (inB x c) := by
  have e : c = I64 (B64 c) := (i64_b64 c (by omega)).symm
  rw [uw c (by omega)]
  conv => lhs; rw [e]
  rw [xor_is, half_is, half_is, stn_add]
  rfl
theorem inner_loop (l : List ByteArray) (s : ByteArray) (hs : s.size ≤ 140737488351232) (i : Int) (res : Int) (d : Nat) : ∀ (j : Nat) (x : BitVec 64), j + d = s.size →
    Ev (fun k => seal_Sum.l0 k l (I64 (crc x ((bytesOf s).drop j))) (wrap64 (i + 1))) res → Ev (fun k => seal_Sum.l1 k l s (I64 x) i (j : Int)) res := by
  induction d with
  | zero =>
    intro j x hj h
    rw [List.drop_eq_nil_of_le (by rw [bytesOf_length]; omega)] at h
    refine Ev.step (fun k => ?_) h
    rw [seal_Sum.l1, if_neg (by omega)]
    rfl
  | succ d ih =>
    intro j x hj h
    have hd : (bytesOf s).drop j = bt s (j : Int) :: (bytesOf s).drop (j + 1) := by
      rw [List.drop_eq_getElem_cons (by rw [bytesOf_length]; omega), bt_nat s j (by omega)]
    rw [hd] at h
    refine Ev.step (fun k => ?_) (ih (j + 1) (inB x (bt s (j : Int))) (by omega) h)
    rw [seal_Sum.l1, if_pos (by omega), if_pos (by omega), byte_is x _ (bt_range s _), wr _ (by omega)]
    rfl
theorem sum_loop (l : List ByteArray) (hr : ∀ s ∈ l, s.size ≤ 140737488351232) (hl : l.length ≤ 140737488351232) (d : Nat) : ∀ (i : Nat) (x : BitVec 64), i + d = l.length →
    Ev (fun k => seal_Sum.l0 k l (I64 x) (i : Int)) (I64 (~~~ crc x (bytesOf (cat (l.drop i))))) := by
  induction d with
  | zero =>
    intro i x hi
    refine Ev.step (f := fun _ => some (I64 (~~~ crc x (bytesOf (cat (l.drop i)))))) (fun k => ?_) (Ev.now _)
    rw [seal_Sum.l0, if_neg (by omega), not_is, List.drop_eq_nil_of_le (by omega), cat, bytesOf_empty]
    rfl
  | succ d ih =>
    intro i x hi
    have hd := drop_rdOf l i (by omega)
    have hm : rdOf ByteArray.empty l (i : Int) ∈ l := List.mem_of_mem_drop (by rw [hd]; exact List.mem_cons_self ..)
    refine Ev.step (fun k => by rw [seal_Sum.l0, if_pos (by omega), if_pos (by omega)]) ?_
    refine inner_loop l (rdOf ByteArray.empty l (i : Int)) (hr _ hm) (i : Int) _ (rdOf ByteArray.empty l (i : Int)).size 0 x (by omega) ?_
    rw [List.drop_zero, hd, cat, bytesOf_append, wr _ (by omega)]
    have := ih (i + 1) (crc x (bytesOf (rdOf ByteArray.empty l (i : Int)))) (by omega)
    rw [show crc x (bytesOf (rdOf ByteArray.empty l (i : Int)) ++ bytesOf (cat (l.drop (i + 1)))) = crc (crc x (bytesOf (rdOf ByteArray.empty l (i : Int)))) (bytesOf (cat (l.drop (i + 1)))) from List.foldl_append]
    exact this
theorem sum_ev (l : List ByteArray) (hr : ∀ s ∈ l, s.size ≤ 140737488351232) (hl : l.length ≤ 140737488351232) : Ev (fun k => seal_Sum.f k l) (sumS (bytesOf (cat l))) := by
  have := sum_loop l hr hl l.length 0 (BitVec.allOnes 64) (by omega)
  rw [List.drop_zero] at this
  exact this
/-! The document's sum, bit by bit. -/
def bitN (c : Int) (b : Nat) : BitVec 64 := BitVec.ofNat 64 (c.toNat / 2 ^ b % 2)
def lowN (c : Int) (b : Nat) : BitVec 64 := BitVec.ofNat 64 (c.toNat % 2 ^ b)
theorem bits_table : ∀ (c : Fin 256) (b : Fin 8), (lowN (c.val : Int) b.val) ^^^ (bitN (c.val : Int) b.val <<< b.val) = lowN (c.val : Int) (b.val + 1) ∧ stn b.val (bitN (c.val : Int) b.val <<< b.val) = bitN (c.val : Int) b.val := by decide +kernel
theorem bits_step (c : Int) (hc : 0 ≤ c ∧ c ≤ 255) (b : Nat) (hb : b < 8) : lowN c b ^^^ (bitN c b <<< b) = lowN c (b + 1) ∧ stn b (bitN c b <<< b) = bitN c b := by
  obtain ⟨n, rfl⟩ := Int.eq_ofNat_of_zero_le hc.1
  exact bits_table ⟨n, by omega⟩ ⟨b, hb⟩
theorem feed_step (r : BitVec 64) (c : Int) (hc : 0 ≤ c ∧ c ≤ 255) (b : Nat) (hb : b < 8) : st (stn b (r ^^^ lowN c b) ^^^ bitN c b) = stn (b + 1) (r ^^^ lowN c (b + 1)) := by
  obtain ⟨h1, h2⟩ := bits_step c hc b hb
  rw [stn, ← h1, ← BitVec.xor_assoc, stn_xor b (r ^^^ lowN c b), h2]
theorem st_bit (x : BitVec 64) (b : Nat) (hb : b < 2) : st (x ^^^ BitVec.ofNat 64 b) = if x.toNat % 2 = b then x >>> 1 else (x >>> 1) ^^^ poly := by
  have hx : x.getLsbD 0 = decide (x.toNat % 2 = 1) := by
    rw [BitVec.getLsbD, Nat.testBit_zero]
  have hs : st x = if x.toNat % 2 = 1 then (x >>> 1) ^^^ poly else x >>> 1 := by
    unfold st
    rw [hx]
    by_cases g : x.toNat % 2 = 1
    · simp [g]
    · simp [g]
  rcases (show b = 0 ∨ b = 1 by omega) with rfl | rfl
  · rw [show x ^^^ BitVec.ofNat 64 0 = x by simp, hs]
    by_cases g : x.toNat % 2 = 1
    · rw [if_pos g, if_neg (by omega)]
    · rw [if_neg g, if_pos (by omega)]
  · rw [st_xor, hs, show st (BitVec.ofNat 64 1) = poly by decide]
    by_cases g : x.toNat % 2 = 1
    · rw [if_pos g, if_pos g, BitVec.xor_assoc, BitVec.xor_self, BitVec.xor_zero]
    · rw [if_neg g, if_neg g]
theorem rbits_loop (s : ByteArray) (hs : s.size ≤ 140737488351232) (i : Nat) (hi : i < s.size) (r : BitVec 64) (res : Int)
    (h : Ev (fun k => ententeref02_Sum.l0 k s (I64 (inB r (bt s (i : Int)))) (wrap64 ((i : Int) + 1))) res) (d : Nat) : ∀ b : Nat, b + d = 8 →
    Ev (fun k => ententeref02_Sum.l1 k s (I64 (stn b (r ^^^ lowN (bt s (i : Int)) b))) (i : Int) (b : Int)) res := by
  have hc := bt_range s (i : Int)
  induction d with
  | zero =>
    intro b hb
    obtain rfl : b = 8 := by omega
    have e : lowN (bt s (i : Int)) 8 = B64 (bt s (i : Int)) := by
      unfold lowN B64
      rw [Nat.mod_eq_of_lt (by omega)]
    rw [e]
    refine Ev.step (fun k => ?_) h
    rw [ententeref02_Sum.l1, if_neg (by omega)]
    rfl
  | succ d ih =>
    intro b hb
    have := ih (b + 1) (by omega)
    rw [← feed_step r _ hc b (by omega)] at this
    refine Ev.step (fun k => ?_) this
    have hshr : IntKind.u64.wrap (shr .u8 (bt s (i : Int)) (b : Int)) = ((bt s (i : Int)).toNat / 2 ^ b : Nat) := by
      have h1 : shr .u8 (bt s (i : Int)) (b : Int) = bt s (i : Int) / 2 ^ b := by
        unfold shr
        rw [Int.toNat_natCast, Nat.min_eq_left (by simp [IntKind.bits]; omega)]
      have h2 : bt s (i : Int) / 2 ^ b = ((bt s (i : Int)).toNat / 2 ^ b : Nat) := by
        have : (((bt s (i : Int)).toNat : Nat) : Int) = bt s (i : Int) := Int.toNat_of_nonneg hc.1
        conv => lhs; rw [← this]
        norm_cast
      rw [h1, h2]
      refine uw _ ⟨Int.natCast_nonneg _, ?_⟩
      have h3 : (((bt s (i : Int)).toNat / 2 ^ b : Nat) : Int) ≤ ((bt s (i : Int)).toNat : Int) := Int.ofNat_le.2 (Nat.div_le_self _ _)
      omega
    generalize hX : stn b (r ^^^ lowN (bt s (i : Int)) b) = X
    have hx := i64_range X
    have t1 : Int.tmod (I64 X) 2 = ((X.toNat % 2 : Nat) : Int) := by
      rw [Int.tmod_eq_emod_of_nonneg hx.1]
      unfold I64
      omega
    have t2 : ∀ n : Nat, Int.tmod (n : Int) 2 = ((n % 2 : Nat) : Int) := by
      intro n
      rw [Int.tmod_eq_emod_of_nonneg (by omega)]
      omega
    have t3 : IntKind.u64.wrap (Int.tdiv (I64 X) 2) = I64 (X >>> 1) := by
      rw [Int.tdiv_eq_ediv_of_nonneg hx.1, div2_is]
      exact uw _ (i64_range _)
    have hb2 : (bt s (i : Int)).toNat / 2 ^ b % 2 < 2 := Nat.mod_lt _ (by decide)
    have hst := st_bit X _ hb2
    rw [ententeref02_Sum.l1, if_pos (by omega), if_pos (by omega), if_pos (by omega), if_pos (by omega), hshr, t1, t2, t3, wr ((b : Int) + 1) (by omega)]
    show _ = ententeref02_Sum.l1 k s (I64 (st (X ^^^ BitVec.ofNat 64 ((bt s (i : Int)).toNat / 2 ^ b % 2)))) (i : Int) ((b + 1 : Nat) : Int)
    rw [hst]
    by_cases g : X.toNat % 2 = (bt s (i : Int)).toNat / 2 ^ b % 2
    · rw [if_pos (by rw [g]), if_pos g]
      rfl
    · rw [if_neg (fun h => g (by exact_mod_cast h)), if_neg g]
      have e : (14514072000185962306 : Int) = I64 poly := by decide
      rw [e, xor_is]
      rfl
theorem rsum_loop (s : ByteArray) (hs : s.size ≤ 140737488351232) (d : Nat) : ∀ (i : Nat) (r : BitVec 64), i + d = s.size →
    Ev (fun k => ententeref02_Sum.l0 k s (I64 r) (i : Int)) (I64 (~~~ crc r ((bytesOf s).drop i))) := by
  induction d with
  | zero =>
    intro i r hi
    refine Ev.step (f := fun _ => some (I64 (~~~ crc r ((bytesOf s).drop i)))) (fun k => ?_) (Ev.now _)
    rw [ententeref02_Sum.l0, if_neg (by omega), List.drop_eq_nil_of_le (by rw [bytesOf_length]; omega)]
    have hr := r.isLt
    show some (IntKind.u64.wrap (18446744073709551615 - I64 r)) = some (I64 (~~~ r))
    rw [uw _ (by unfold I64; omega)]
    unfold I64
    rw [BitVec.toNat_not]
    congr 1
    omega
  | succ d ih =>
    intro i r hi
    have hd : (bytesOf s).drop i = bt s (i : Int) :: (bytesOf s).drop (i + 1) := by
      rw [List.drop_eq_getElem_cons (by rw [bytesOf_length]; omega), bt_nat s i (by omega)]
    rw [hd]
    refine Ev.step (fun k => by rw [ententeref02_Sum.l0, if_pos (by omega)]) ?_
    have := ih (i + 1) (inB r (bt s (i : Int))) (by omega)
    have e0 : stn 0 (r ^^^ lowN (bt s (i : Int)) 0) = r := by
      show r ^^^ lowN (bt s (i : Int)) 0 = r
      unfold lowN
      rw [Nat.pow_zero, Nat.mod_one]
      simp
    have h := rbits_loop s hs i (by omega) r _ (by rw [wr _ (by omega)]; exact this) 8 0 (by omega)
    rw [e0] at h
    exact h
theorem rsum_ev (s : ByteArray) (hs : s.size ≤ 140737488351232) : Ev (fun k => ententeref02_Sum.f k s) (sumS (bytesOf s)) := by
  have := rsum_loop s hs s.size 0 (BitVec.allOnes 64) (by omega)
  rw [List.drop_zero] at this
  exact this
/-- What is taken at a place: the number, the place behind, the error. -/
def TN (s : ByteArray) (at_ : Int) : Int × Int × Int :=
  if at_ < 0 ∨ at_ > (s.size : Int) then (0, 0, 2) else
    ((tnS ((bytesOf s).drop at_.toNat) 0 0).1, (if (tnS ((bytesOf s).drop at_.toNat) 0 0).2.2 = 0 then at_ + (tnS ((bytesOf s).drop at_.toNat) 0 0).2.1 else 0), (tnS ((bytesOf s).drop at_.toNat) 0 0).2.2)
def rel (a : Int) (r : Int × Int × Int) : Int × Int × Int := (r.1, (if r.2.2 = 0 then a + r.2.1 else 0), r.2.2)
theorem rel_err (a e : Int) (h : e ≠ 0) : rel a (0, 0, e) = (0, 0, e) := by unfold rel; rw [if_neg h]
theorem rel_ok (a n c : Int) : rel a (n, c, 0) = (n, a + c, 0) := by unfold rel; rw [if_pos rfl]
theorem tnS_nil (i : Nat) (n : Int) : tnS [] i n = if i < 10 then (0, 0, 10) else (0, 0, 11) := rfl
theorem tnS_cons (c : Int) (l : List Int) (i : Nat) (n : Int) : tnS (c :: l) i n = if 10 ≤ i then (0, 0, 11) else if i = 9 ∧ c > 1 then (0, 0, 11) else if c ≥ 128 then tnS l (i + 1) (n + c % 128 * 128 ^ i) else if c = 0 ∧ i > 0 then (0, 0, 11) else (n + c * 128 ^ i, i + 1, 0) := rfl
theorem pow7 (i : Nat) : (2 : Int) ^ (7 * i) = 128 ^ i := by rw [Int.pow_mul]; rfl
theorem pow7n (i : Nat) : (2 : Nat) ^ (7 * i) = 128 ^ i := by rw [Nat.pow_mul]
theorem pow_le (i : Nat) (h : i ≤ 9) : (128 : Nat) ^ i ≤ 9223372036854775808 := by
  have := Nat.pow_le_pow_right (show 0 < 128 by decide) h
  have e : (128 : Nat) ^ 9 = 9223372036854775808 := by decide
  omega
/-- Seven bits more. -/
theorem or_more (n c : Int) (i : Nat) (hi : i ≤ 9) (hn : 0 ≤ n ∧ n < 128 ^ i) (hc : 0 ≤ c ∧ c < 256) (h9 : i = 9 → c ≤ 1) :
    Go.bits .or .u64 n (shl .u64 (IntKind.u64.wrap (Go.bits .and .u8 c 127)) (IntKind.u64.wrap (wrap64 (7 * (i : Int))))) = n + c % 128 * 128 ^ i := by
  rw [and127 c hc, uw (c % 128) (by omega), wr (7 * (i : Int)) (by omega), uw (7 * (i : Int)) (by omega)]
  unfold shl
  have e1 : min (7 * (i : Int)).toNat IntKind.u64.bits = 7 * i := by simp [IntKind.bits]; omega
  rw [e1, pow7]
  obtain ⟨m, rfl⟩ := Int.eq_ofNat_of_zero_le hn.1
  obtain ⟨d, hd⟩ := Int.eq_ofNat_of_zero_le (show 0 ≤ c % 128 by omega)
  rw [hd]
  have hp := pow_le i hi
  have hm : m < 128 ^ i := by
    have := hn.2
    have q : ((128 ^ i : Nat) : Int) = (128 : Int) ^ i := by simp
    omega
  have hq : ((d * 128 ^ i : Nat) : Int) = (d : Int) * 128 ^ i := by simp
  have hy : d * 128 ^ i < 18446744073709551616 := by
    by_cases h : i = 9
    · have := h9 h
      have hd1 : d ≤ 1 := by omega
      have : d * 128 ^ i ≤ 1 * 128 ^ i := Nat.mul_le_mul_right _ hd1
      omega
    · have h8 : (128 : Nat) ^ i ≤ 128 ^ 8 := Nat.pow_le_pow_right (by decide) (by omega)
      have e8 : (128 : Nat) ^ 8 = 72057594037927936 := by decide
      have : d * 128 ^ i ≤ 127 * 72057594037927936 := Nat.mul_le_mul (by omega) (by omega)
      omega
  rw [← hq, uw _ (by omega)]
  exact or_join m (d * 128 ^ i) (7 * i) (by rw [pow7n]; exact hm) (by rw [pow7n]; exact Nat.mul_mod_left _ _) (by omega) (by omega)
theorem rd_drop_bt (s : ByteArray) (a : Nat) (h : a < s.size) : (bytesOf s).drop a = bt s (a : Int) :: (bytesOf s).drop (a + 1) := by
  rw [drop_cons _ a (by rw [bytesOf_length]; exact h), rd_bytesOf]
theorem take_loop (s : ByteArray) (hs : s.size ≤ 140737488351232) (a d : Nat) : ∀ (i : Nat) (n : Int), i + d = 10 → a + i ≤ s.size → 0 ≤ n → n < 128 ^ i →
    Ev (fun k => pack_TakeNumber.l0 k s (a : Int) n (i : Int)) (rel (a : Int) (tnS ((bytesOf s).drop (a + i)) i n)) := by
  induction d with
  | zero =>
    intro i n hi ha h0 h1
    refine Ev.step (f := fun _ => some (0, 0, 11)) (fun k => ?_) ?_
    · simp only [pack_TakeNumber.l0]
      rw [if_neg (by omega)]
    · have : rel (a : Int) (tnS ((bytesOf s).drop (a + i)) i n) = (0, 0, 11) := by
        cases (bytesOf s).drop (a + i) with
        | nil => rw [tnS_nil, if_neg (by omega), rel_err _ _ (by decide)]
        | cons c l => rw [tnS_cons, if_pos (by omega), rel_err _ _ (by decide)]
      rw [this]
      exact Ev.now _
  | succ d ih =>
    intro i n hi ha h0 h1
    have w1 : wrap64 ((a : Int) + (i : Int)) = ((a + i : Nat) : Int) := by unfold wrap64; omega
    have w2 : wrap64 ((i : Int) + 1) = ((i + 1 : Nat) : Int) := by unfold wrap64; omega
    have hz : IntKind.u64.wrap (wrap64 (7 * (i : Int))) = 7 * (i : Int) := by rw [wr _ (by omega), uw _ (by omega)]
    by_cases c0 : a + i = s.size
    · refine Ev.step (f := fun _ => some (0, 0, 10)) (fun k => ?_) ?_
      · simp only [pack_TakeNumber.l0]
        rw [if_pos (by omega), w1, if_pos (by omega)]
      · rw [List.drop_eq_nil_of_le (by rw [bytesOf_length]; omega)]
        rw [tnS_nil, if_pos (by omega), rel_err _ _ (by decide)]
        exact Ev.now _
    · have hb := bt_range s ((a + i : Nat) : Int)
      rw [rd_drop_bt s (a + i) (by omega)]
      obtain ⟨c, hc⟩ : ∃ c, bt s ((a + i : Nat) : Int) = c := ⟨_, rfl⟩
      rw [hc] at hb ⊢
      have head : ∀ k, pack_TakeNumber.l0 (k + 1) s (a : Int) n (i : Int) = pack_TakeNumber.j2 k s (a : Int) n (i : Int) c (i : Int) (decide (i = 9 ∧ c > 1)) := fun k => by
        simp only [pack_TakeNumber.l0]
        rw [if_pos (by omega), w1, if_neg (by omega), if_pos (by omega), if_pos (by omega), hc]
        by_cases h9 : i = 9
        · rw [if_pos (by omega)]
          congr 1
          simp [h9]
        · rw [if_neg (by omega)]
          congr 1
          simp [h9]
      by_cases c1 : i = 9 ∧ c > 1
      · refine ev_shift 2 (f := fun _ => some (0, 0, 11)) (fun k => ?_) ?_
        · rw [head, decide_eq_true c1, pack_TakeNumber.j2, if_pos rfl]
        · rw [tnS_cons, if_neg (by omega), if_pos c1, rel_err _ _ (by decide)]
          exact Ev.now _
      · have hm := or_more n c i (by omega) ⟨h0, h1⟩ ⟨hb.1, by omega⟩ (fun h => by omega)
        by_cases c2 : c ≥ 128
        · have hlt : n + c % 128 * 128 ^ i < 128 ^ (i + 1) := by
            have p0 : (0 : Int) ≤ 128 ^ i := by omega
            have : c % 128 * 128 ^ i ≤ 127 * 128 ^ i := Int.mul_le_mul_of_nonneg_right (by omega) p0
            rw [Int.pow_succ]
            omega
          have hge : 0 ≤ n + c % 128 * 128 ^ i := by
            have p0 : (0 : Int) ≤ 128 ^ i := by omega
            have : 0 ≤ c % 128 * 128 ^ i := Int.mul_nonneg (by omega) p0
            omega
          have := ih (i + 1) (n + c % 128 * 128 ^ i) (by omega) (by omega) hge hlt
          rw [tnS_cons, if_neg (by omega), if_neg c1, if_pos c2]
          refine ev_shift 2 (fun k => ?_) this
          rw [head, decide_eq_false c1, pack_TakeNumber.j2, if_neg (by simp), hz, if_pos (by omega), if_pos c2, ← hz, hm, w2]
        · have h128 : c % 128 = c := by omega
          rw [h128] at hm
          rw [tnS_cons, if_neg (by omega), if_neg c1, if_neg c2]
          by_cases c3 : c = 0 ∧ i > 0
          · rw [if_pos c3, rel_err _ _ (by decide)]
            refine ev_shift 2 (f := fun _ => some (0, 0, 11)) (fun k => ?_) (Ev.now _)
            rw [head, decide_eq_false c1, pack_TakeNumber.j2, if_neg (by simp), hz, if_pos (by omega), if_neg c2, if_pos c3.1, if_pos (by omega)]
          · rw [if_neg c3, rel_ok]
            have w3 : wrap64 ((wrap64 ((a : Int) + (i : Int))) + 1) = (a : Int) + ((i : Int) + 1) := by rw [w1]; unfold wrap64; omega
            refine ev_shift 2 (f := fun _ => some (n + c * 128 ^ i, (a : Int) + ((i : Int) + 1), 0)) (fun k => ?_) ?_
            · rw [head, decide_eq_false c1, pack_TakeNumber.j2, if_neg (by simp), if_pos (by rw [hz]; omega), if_neg c2, hm, w3]
              by_cases c4 : c = 0
              · rw [if_pos c4, if_neg (by omega)]
              · rw [if_neg c4]
            · exact Ev.now _
theorem take_ev (s : ByteArray) (hs : s.size ≤ 140737488351232) (a : Int) : Ev (fun k => pack_TakeNumber.f k s a) (TN s a) := by
  have bad : Ev (fun k => pack_TakeNumber.j0 k s a true) (0, 0, 2) := Ev.step (f := fun _ => some (0, 0, 2)) (fun k => by simp only [pack_TakeNumber.j0, if_true]) (Ev.now _)
  by_cases c1 : a < 0
  · have : TN s a = (0, 0, 2) := if_pos (.inl c1)
    rw [this]
    exact Ev.congr (fun k => by unfold pack_TakeNumber.f; rw [if_pos c1]) bad
  by_cases c2 : a > (s.size : Int)
  · have : TN s a = (0, 0, 2) := if_pos (.inr c2)
    rw [this]
    exact Ev.congr (fun k => by unfold pack_TakeNumber.f; rw [if_neg c1, decide_eq_true c2]) bad
  obtain ⟨m, rfl⟩ := Int.eq_ofNat_of_zero_le (show 0 ≤ a by omega)
  have : TN s (m : Int) = rel (m : Int) (tnS ((bytesOf s).drop (m + 0)) 0 0) := if_neg (by omega)
  rw [this]
  refine Ev.congr (f := fun k => pack_TakeNumber.j0 k s (m : Int) false) (fun k => by unfold pack_TakeNumber.f; rw [if_neg c1, decide_eq_false c2]) ?_
  refine Ev.step (fun k => ?_) (take_loop s hs m 10 0 0 (by omega) (by omega) (by omega) (by decide))
  simp only [pack_TakeNumber.j0, Bool.false_eq_true, if_false]
  rfl
theorem tn_facts (s : ByteArray) (hs : s.size ≤ 140737488351232) (a : Int) : (TN s a).2.2 ≠ 0 ∧ (TN s a).1 = 0 ∧ (TN s a).2.1 = 0 ∨ (TN s a).2.2 = 0 ∧ 0 ≤ (TN s a).1 ∧ (TN s a).1 < 18446744073709551616 ∧ 0 ≤ a ∧ a < (TN s a).2.1 ∧ (TN s a).2.1 ≤ (s.size : Int) := by
  by_cases c : a < 0 ∨ a > (s.size : Int)
  · have : TN s a = (0, 0, 2) := if_pos c
    rw [this]; left; simp
  · have e : TN s a = rel a (tnS ((bytesOf s).drop a.toNat) 0 0) := if_neg c
    rw [e]
    rcases tnS_err ((bytesOf s).drop a.toNat) 0 0 with h | ⟨h1, h2, h3⟩
    · right
      obtain ⟨m, r, h4, h5, h6, h7, h8⟩ := tnS_ok _ (fun x hx => bytesOf_byte s x (List.mem_of_mem_drop hx)) h
      rw [h7]
      have hl := congrArg List.length h4
      rw [List.length_drop, bytesOf_length, List.length_append] at hl
      have hp : 1 ≤ m.length := by
        match m, h5 with
        | [], h5 => exact absurd h5 (by simp [Canon])
        | x :: m, _ => simp
      have hv := valS_nonneg m
      rw [rel_ok]
      exact ⟨rfl, hv, h8, by show 0 ≤ a; omega, by show a < a + (m.length : Int); omega, by show a + (m.length : Int) ≤ _; omega⟩
    · left
      have h4 : (tnS ((bytesOf s).drop a.toNat) 0 0).2.2 ≠ 0 := by omega
      exact ⟨h4, h1, if_neg h4⟩
/-! Frames: what Seal makes, what Open tells. -/
abbrev E0 : ByteArray := ⟨#[]⟩
def eightS (n : Int) : List Int := [n % 256, n / 256 % 256, n / 65536 % 256, n / 16777216 % 256, n / 4294967296 % 256, n / 1099511627776 % 256, n / 281474976710656 % 256, n / 72057594037927936 % 256]
theorem eightS_byte (n : Int) : ∀ x ∈ eightS n, Byte x := by
  intro x hx
  unfold eightS at hx
  simp only [List.mem_cons, List.not_mem_nil, or_false] at hx
  unfold Byte
  omega
def eightB (n : Int) : ByteArray := strOfNums (eightS n)
theorem eightB_bytes (n : Int) : bytesOf (eightB n) = eightS n := bytesOf_nums _ (eightS_byte n)
theorem eightB_size (n : Int) : (eightB n).size = 8 := by rw [← size_bytesOf, eightB_bytes]; rfl
/-- A frame without its sum. -/
def hdB (v : Int) (body : ByteArray) : ByteArray := strOfNums [231, v % 256] ++ Tx body
theorem hd_two (v : Int) : bytesOf (strOfNums [231, v % 256]) = [231, v % 256] := by
  refine bytesOf_nums _ (fun x hx => ?_)
  simp only [List.mem_cons, List.not_mem_nil, or_false] at hx
  unfold Byte
  omega
theorem hd_bytes (v : Int) (body : ByteArray) : bytesOf (hdB v body) = 231 :: v % 256 :: (numS body.size ++ bytesOf body) := by
  unfold hdB Tx
  rw [bytesOf_append, bytesOf_append, hd_two, nm_bytes, Int.toNat_natCast]
  rfl
theorem two_size (v : Int) : (strOfNums [231, v % 256]).size = 2 := by rw [← size_bytesOf, hd_two]; rfl
theorem hd_size (v : Int) (body : ByteArray) (h : body.size ≤ 140737488351232) : (hdB v body).size ≤ body.size + 12 := by
  unfold hdB
  rw [size_app, two_size]
  have := tx_size body h
  omega
def SEAL (v : Int) (body : ByteArray) : ByteArray × Int :=
  if v < 0 ∨ v > 255 then (E0, 2) else if (body.size : Int) > 30000 then (E0, 3) else (hdB v body ++ eightB (sumS (bytesOf (hdB v body))), 0)
theorem cat_one (s : ByteArray) : cat [s] = s := by simp only [cat]; exact app_empty s
theorem seal_ev (v : Int) (body : ByteArray) : Ev (fun k => seal_Seal.f k v body) (SEAL v body) := by
  have bad : Ev (fun k => seal_Seal.j0 k v body true) (E0, 2) := Ev.step (f := fun _ => some (E0, 2)) (fun k => by rw [seal_Seal.j0, if_pos rfl]) (Ev.now _)
  unfold seal_Seal.f SEAL
  by_cases c1 : v < 0
  · rw [if_pos (.inl c1)]
    exact Ev.congr (fun k => if_pos c1) bad
  · refine Ev.congr (fun k => if_neg c1) ?_
    by_cases c2 : v > 255
    · rw [if_pos (.inr c2), decide_eq_true c2]
      exact bad
    · rw [if_neg (by omega), decide_eq_false c2]
      by_cases c3 : (body.size : Int) > 30000
      · rw [if_pos c3]
        exact Ev.step (f := fun _ => some (E0, 3)) (fun k => by rw [seal_Seal.j0, if_neg (by decide), if_pos c3]) (Ev.now _)
      · rw [if_neg c3]
        have ht := tx_size body (by omega)
        have h2 := two_size v
        have hh := hd_size v body (by omega)
        refine Ev.step (fun k => by rw [seal_Seal.j0, if_neg (by decide), if_neg c3]) ?_
        simp only [Option.bind_some]
        refine Ev.bind (text_ev body (by omega)) ?_
        refine Ev.congr (fun k => if_pos (by omega)) ?_
        have hs := sum_ev [hdB v body] (fun s hs => by rw [List.mem_singleton] at hs; subst hs; omega) (by simp)
        rw [cat_one] at hs
        refine Ev.bind hs ?_
        have h8 : seal_eight.f (sumS (bytesOf (hdB v body))) = some (eightB (sumS (bytesOf (hdB v body)))) := rfl
        have h9 := eightB_size (sumS (bytesOf (hdB v body)))
        have hx : (strOfNums [231, v % 256] ++ Tx body).size ≤ body.size + 12 := hh
        refine Ev.congr (f := fun _ => some (hdB v body ++ eightB (sumS (bytesOf (hdB v body))), 0)) (fun k => ?_) (Ev.now _)
        rw [h8, Option.bind_some, if_pos (by omega)]
        rfl
/-- What Open tells. -/
def OP (s : ByteArray) (a v : Int) : ByteArray × Int × Int :=
  if a < 0 ∨ a > (s.size : Int) ∨ v < 0 ∨ v > 255 then (E0, 0, 2)
  else if a = (s.size : Int) then (E0, 0, 10)
  else if bt s a = 231 then
    if a + 1 = (s.size : Int) then (E0, 0, 10)
    else if bt s (a + 1) = v then
      if (TN s (a + 2)).2.2 = 0 then
        if (TN s (a + 2)).1 > 30000 then (E0, 0, 3)
        else if (TN s (a + 2)).1 + 8 > (s.size : Int) - (TN s (a + 2)).2.1 then (E0, 0, 10)
        else if eightB (sumS (bytesOf (s.extract a.toNat ((TN s (a + 2)).2.1 + (TN s (a + 2)).1).toNat))) = s.extract ((TN s (a + 2)).2.1 + (TN s (a + 2)).1).toNat ((TN s (a + 2)).2.1 + (TN s (a + 2)).1 + 8).toNat
        then (s.extract (TN s (a + 2)).2.1.toNat ((TN s (a + 2)).2.1 + (TN s (a + 2)).1).toNat, (TN s (a + 2)).2.1 + (TN s (a + 2)).1 + 8, 0) else (E0, 0, 22)
      else (E0, 0, (TN s (a + 2)).2.2)
    else (E0, 0, 21)
  else (E0, 0, 20)
theorem extract_size (s : ByteArray) (a b : Nat) : (s.extract a b).size ≤ s.size := by
  rw [← size_bytesOf, bytesOf_extract, List.length_drop, List.length_take, size_bytesOf]
  omega
theorem open_ev (s : ByteArray) (hs : s.size ≤ 1000000000) (a v : Int) : Ev (fun k => seal_Open.f k s a v) (OP s a v) := by
  have bad : Ev (fun k => seal_Open.j0 k s a v true) (E0, 0, 2) := Ev.step (f := fun _ => some (E0, 0, 2)) (fun k => by rw [seal_Open.j0, if_pos rfl]) (Ev.now _)
  unfold seal_Open.f
  by_cases c1 : a < 0
  · rw [show OP s a v = (E0, 0, 2) from if_pos (.inl c1)]
    exact Ev.congr (fun k => if_pos c1) bad
  refine Ev.congr (fun k => if_neg c1) ?_
  by_cases c2 : a > (s.size : Int)
  · rw [show OP s a v = (E0, 0, 2) from if_pos (.inr (.inl c2))]
    exact Ev.congr (fun k => if_pos c2) bad
  refine Ev.congr (fun k => if_neg c2) ?_
  by_cases c3 : v < 0
  · rw [show OP s a v = (E0, 0, 2) from if_pos (.inr (.inr (.inl c3)))]
    exact Ev.congr (fun k => if_pos c3) bad
  refine Ev.congr (fun k => if_neg c3) ?_
  by_cases c4 : v > 255
  · rw [show OP s a v = (E0, 0, 2) from if_pos (.inr (.inr (.inr c4))), decide_eq_true c4]
    exact bad
  rw [decide_eq_false c4]
  unfold OP
  rw [if_neg (by omega)]
  refine Ev.step (fun k => by rw [seal_Open.j0, if_neg (by decide)]) ?_
  by_cases c5 : a = (s.size : Int)
  · rw [if_pos c5]
    exact Ev.congr (fun k => if_pos c5) (Ev.now _)
  rw [if_neg c5]
  refine Ev.congr (fun k => by rw [if_neg c5, if_pos (by omega), if_pos (by omega)]) ?_
  by_cases c6 : bt s a = 231
  · rw [if_pos c6]
    refine Ev.congr (fun k => if_pos c6) ?_
    have w1 : wrap64 (a + 1) = a + 1 := wr _ (by omega)
    have w2 : wrap64 (a + 2) = a + 2 := wr _ (by omega)
    rw [w1, w2]
    by_cases c7 : a + 1 = (s.size : Int)
    · rw [if_pos c7]
      exact Ev.congr (fun k => if_pos c7) (Ev.now _)
    rw [if_neg c7]
    have hb := bt_range s (a + 1)
    rw [wr (bt s (a + 1)) (by omega)]
    refine Ev.congr (fun k => by rw [if_neg c7, if_pos (by omega), if_pos (by omega)]) ?_
    by_cases c8 : bt s (a + 1) = v
    · rw [if_pos c8]
      refine Ev.congr (fun k => if_pos c8) ?_
      refine Ev.bind (take_ev s (by omega) (a + 2)) ?_
      by_cases c9 : (TN s (a + 2)).2.2 = 0
      · rw [if_pos c9]
        refine Ev.congr (fun k => if_pos c9) ?_
        have hf := tn_facts s (by omega) (a + 2)
        rcases hf with hf | ⟨_, f1, f2, f3, f4, f5⟩
        · exact absurd c9 hf.1
        by_cases c10 : (TN s (a + 2)).1 > 30000
        · rw [if_pos c10]
          exact Ev.congr (fun k => if_pos c10) (Ev.now _)
        rw [if_neg c10]
        refine Ev.congr (fun k => if_neg c10) ?_
        rw [wr (TN s (a + 2)).1 (by omega), wr ((TN s (a + 2)).1 + 8) (by omega), wr ((s.size : Int) - (TN s (a + 2)).2.1) (by omega)]
        by_cases c11 : (TN s (a + 2)).1 + 8 > (s.size : Int) - (TN s (a + 2)).2.1
        · rw [if_pos c11]
          exact Ev.congr (fun k => if_pos c11) (Ev.now _)
        rw [if_neg c11]
        rw [wr ((TN s (a + 2)).2.1 + (TN s (a + 2)).1) (by omega), wr ((TN s (a + 2)).2.1 + (TN s (a + 2)).1 + 8) (by omega)]
        refine Ev.congr (fun k => by rw [if_neg c11, if_pos (by omega), if_pos (by omega)]) ?_
        have hsz := extract_size s a.toNat ((TN s (a + 2)).2.1 + (TN s (a + 2)).1).toNat
        have hsum := sum_ev [s.extract a.toNat ((TN s (a + 2)).2.1 + (TN s (a + 2)).1).toNat] (fun t ht => by rw [List.mem_singleton] at ht; subst ht; omega) (by simp)
        rw [cat_one] at hsum
        refine Ev.bind hsum ?_
        have h8 : ∀ n, seal_eight.f n = some (eightB n) := fun _ => rfl
        simp only [h8, Option.bind_some]
        refine Ev.congr (fun k => by rw [if_pos (by omega), if_pos (by omega), if_pos (by omega)]) ?_
        by_cases c12 : eightB (sumS (bytesOf (s.extract a.toNat ((TN s (a + 2)).2.1 + (TN s (a + 2)).1).toNat))) = s.extract ((TN s (a + 2)).2.1 + (TN s (a + 2)).1).toNat ((TN s (a + 2)).2.1 + (TN s (a + 2)).1 + 8).toNat
        · rw [if_pos c12]
          exact Ev.congr (fun k => by rw [if_pos (toList_iff.2 c12), if_pos (by omega), if_pos (by omega)]) (Ev.now _)
        · rw [if_neg c12]
          exact Ev.congr (fun k => if_neg (fun h => c12 (toList_iff.1 h))) (Ev.now _)
      · rw [if_neg c9]
        exact Ev.congr (fun k => if_neg c9) (Ev.now _)
    · rw [if_neg c8]
      exact Ev.congr (fun k => if_neg c8) (Ev.now _)
  · rw [if_neg c6]
    exact Ev.congr (fun k => if_neg c6) (Ev.now _)
theorem eight_step (x : Int) (hx : 0 ≤ x ∧ x < 18446744073709551616) (acc : List Int) (i : Nat) (hi : i < 8) (ha : acc.length ≤ 8) (r : ByteArray)
    (h : Ev (fun k => ententeref02_eight.l0 k (x / 256) (acc ++ [x % 256]) ((i + 1 : Nat) : Int)) r) : Ev (fun k => ententeref02_eight.l0 k x acc (i : Int)) r := by
  refine Ev.step (fun k => ?_) h
  rw [ententeref02_eight.l0, if_pos (by omega), if_pos (by omega), wr _ (by omega), Int.tmod_eq_emod_of_nonneg hx.1, Int.tdiv_eq_ediv_of_nonneg hx.1, uw _ (by omega), Int.emod_emod_of_dvd x (Int.dvd_refl 256)]
  rfl
theorem reight_ev (n : Int) (h : 0 ≤ n ∧ n < 18446744073709551616) : Ev (fun k => ententeref02_eight.f k n) (eightB n) := by
  unfold ententeref02_eight.f
  refine eight_step n h [] 0 (by omega) (by simp) _ ?_
  refine eight_step _ (by omega) _ 1 (by omega) (by simp) _ ?_
  refine eight_step _ (by omega) _ 2 (by omega) (by simp) _ ?_
  refine eight_step _ (by omega) _ 3 (by omega) (by simp) _ ?_
  refine eight_step _ (by omega) _ 4 (by omega) (by simp) _ ?_
  refine eight_step _ (by omega) _ 5 (by omega) (by simp) _ ?_
  refine eight_step _ (by omega) _ 6 (by omega) (by simp) _ ?_
  refine eight_step _ (by omega) _ 7 (by omega) (by simp) _ ?_
  refine Ev.step (f := fun _ => some (eightB n)) (fun k => ?_) (Ev.now _)
  rw [ententeref02_eight.l0, if_neg (by omega)]
  unfold eightB eightS
  congr 2
  simp only [List.nil_append, List.cons_append]
  congr 1
  rw [show n / 256 / 256 = n / 65536 by omega]
  congr 1
  congr 1
  rw [show n / 65536 / 256 = n / 16777216 by omega]
  congr 1
  rw [show n / 16777216 / 256 = n / 4294967296 by omega]
  congr 1
  rw [show n / 4294967296 / 256 = n / 1099511627776 by omega]
  congr 1
  rw [show n / 1099511627776 / 256 = n / 281474976710656 by omega]
  congr 1
  rw [show n / 281474976710656 / 256 = n / 72057594037927936 by omega]
theorem sumS_range (l : List Int) : 0 ≤ sumS l ∧ sumS l < 18446744073709551616 := i64_range _
theorem rseal_ev (v : Int) (body : ByteArray) : Ev (fun k => ententeref02_Seal.f k v body) (SEAL v body) := by
  have bad : Ev (fun k => ententeref02_Seal.j0 k v body true) (E0, 2) := Ev.step (f := fun _ => some (E0, 2)) (fun k => by rw [ententeref02_Seal.j0, if_pos rfl]) (Ev.now _)
  unfold ententeref02_Seal.f SEAL
  by_cases c1 : v < 0
  · rw [if_pos (.inl c1)]
    exact Ev.congr (fun k => if_pos c1) bad
  · refine Ev.congr (fun k => if_neg c1) ?_
    by_cases c2 : v > 255
    · rw [if_pos (.inr c2), decide_eq_true c2]
      exact bad
    · rw [if_neg (by omega), decide_eq_false c2]
      by_cases c3 : (body.size : Int) > 30000
      · rw [if_pos c3]
        exact Ev.step (f := fun _ => some (E0, 3)) (fun k => by rw [ententeref02_Seal.j0, if_neg (by decide), if_pos c3]) (Ev.now _)
      · rw [if_neg c3]
        have ht := tx_size body (by omega)
        have h2 := two_size v
        have hh := hd_size v body (by omega)
        refine Ev.step (fun k => by rw [ententeref02_Seal.j0, if_neg (by decide), if_neg c3]) ?_
        simp only [Option.bind_some]
        refine Ev.bind (rtext_ev body (by omega)) ?_
        refine Ev.congr (fun k => if_pos (by omega)) ?_
        refine Ev.bind (rsum_ev (hdB v body) (by omega)) ?_
        refine Ev.bind (reight_ev _ (sumS_range _)) ?_
        have h9 := eightB_size (sumS (bytesOf (hdB v body)))
        have hx : (strOfNums [231, v % 256] ++ Tx body).size ≤ body.size + 12 := hh
        exact Ev.congr (f := fun _ => some (hdB v body ++ eightB (sumS (bytesOf (hdB v body))), 0)) (fun k => by rw [if_pos (by omega)]; rfl) (Ev.now _)
/-! tests and rounds -/
theorem ev_ite {α : Type} {c : Prop} [Decidable c] {f g : Nat → Option α} {r : α} (h1 : c → Ev f r) (h2 : ¬ c → Ev g r) : Ev (fun k => if c then f k else g k) r := by
  by_cases hc : c
  · exact Ev.congr (fun k => if_pos hc) (h1 hc)
  · exact Ev.congr (fun k => if_neg hc) (h2 hc)
theorem ev_pos {α : Type} {c : Prop} [Decidable c] {f g : Nat → Option α} {r : α} (hc : c) (h1 : Ev f r) : Ev (fun k => if c then f k else g k) r := Ev.congr (fun k => if_pos hc) h1
theorem ev_neg {α : Type} {c : Prop} [Decidable c] {f g : Nat → Option α} {r : α} (hc : ¬ c) (h2 : Ev g r) : Ev (fun k => if c then f k else g k) r := Ev.congr (fun k => if_neg hc) h2
theorem ev_eq {α : Type} {f : Nat → Option α} {r r' : α} (h : Ev f r) (e : r = r') : Ev f r' := e ▸ h
/-! Frames, as lists of bytes: where one stands, Open tells it; and of what Open tells a frame stood there. -/
def VOK (v : Int) : Prop := 0 ≤ v ∧ v ≤ 255
/-- A frame's bytes. -/
def frB (v : Int) (body : ByteArray) : List Int := (231 :: v :: (numS body.size ++ bytesOf body)) ++ eightS (sumS (231 :: v :: (numS body.size ++ bytesOf body)))
def FR (v : Int) (body : ByteArray) : ByteArray := hdB v body ++ eightB (sumS (bytesOf (hdB v body)))
theorem hd_ok (v : Int) (hv : VOK v) (body : ByteArray) : bytesOf (hdB v body) = 231 :: v :: (numS body.size ++ bytesOf body) := by
  rw [hd_bytes, Int.emod_eq_of_lt hv.1 (by have := hv.2; omega)]
theorem fr_bytes (v : Int) (hv : VOK v) (body : ByteArray) : bytesOf (FR v body) = frB v body := by
  unfold FR frB
  rw [bytesOf_append, eightB_bytes, hd_ok v hv]
theorem frB_len (v : Int) (body : ByteArray) : (frB v body).length = 10 + (numS body.size).length + body.size := by
  unfold frB eightS
  simp [size_bytesOf]
  omega
theorem seal_ok (v : Int) (hv : VOK v) (body : ByteArray) (hb : (body.size : Int) ≤ 30000) : SEAL v body = (FR v body, 0) := by
  unfold SEAL
  have := hv.1
  have := hv.2
  rw [if_neg (by omega), if_neg (by omega)]
  rfl
theorem seal_bad (v : Int) (body : ByteArray) (h : ¬ (VOK v ∧ (body.size : Int) ≤ 30000)) : (SEAL v body).2 ≠ 0 := by
  unfold SEAL
  by_cases c : v < 0 ∨ v > 255
  · rw [if_pos c]
    decide
  · rw [if_neg c]
    have : (body.size : Int) > 30000 := by
      unfold VOK at h
      omega
    rw [if_pos this]
    decide
theorem bt_drop (s : ByteArray) (a : Nat) (l : List Int) (h : (bytesOf s).drop a = l) (i : Nat) (hi : i < l.length) : bt s ((a : Int) + (i : Int)) = l[i] := by
  have hl : l.length = s.size - a := by rw [← h, List.length_drop, size_bytesOf]
  have e : ((a : Int) + (i : Int)) = ((a + i : Nat) : Int) := by omega
  rw [e, bt_nat s (a + i) (by omega)]
  subst h
  rw [List.getElem_drop]
theorem tn_drop (s : ByteArray) (a : Nat) (l : List Int) (h : (bytesOf s).drop a = l) (hl : 2 ≤ l.length) : TN s ((a : Int) + 2) = ((tnS (l.drop 2) 0 0).1, (if (tnS (l.drop 2) 0 0).2.2 = 0 then (a : Int) + 2 + (tnS (l.drop 2) 0 0).2.1 else 0), (tnS (l.drop 2) 0 0).2.2) := by
  have hs : l.length = s.size - a := by rw [← h, List.length_drop, size_bytesOf]
  unfold TN
  rw [if_neg (by omega), show ((a : Int) + 2).toNat = a + 2 from by omega, ← h, List.drop_drop]
theorem ext_bytes (s : ByteArray) (a b n : Nat) (l : List Int) (h : (bytesOf s).drop a = l) (hb : b = a + n) : bytesOf (s.extract a b) = l.take n := by
  rw [bytesOf_extract, hb, List.drop_take, h]
  congr 1
  omega
theorem op_frame (s : ByteArray) (a : Nat) (v : Int) (hv : VOK v) (body : ByteArray) (hb : body.size ≤ 30000) (r : List Int) (h : (bytesOf s).drop a = frB v body ++ r) :
    OP s (a : Int) v = (body, (a : Int) + (frB v body).length, 0) := by
  have hfl := frB_len v body
  have hs : (frB v body ++ r).length = s.size - a := by rw [← h, List.length_drop, size_bytesOf]
  rw [List.length_append] at hs
  have hv0 := hv.1
  have hv1 := hv.2
  have hL : frB v body ++ r = 231 :: v :: (numS body.size ++ (bytesOf body ++ (eightS (sumS (231 :: v :: (numS body.size ++ bytesOf body))) ++ r))) := by
    unfold frB
    simp
  have h0 : bt s (a : Int) = 231 := by
    have := bt_drop s a _ h 0 (by rw [List.length_append]; omega)
    rw [show ((a : Int) + ((0 : Nat) : Int)) = (a : Int) by omega] at this
    rw [this]
    simp only [hL, List.getElem_cons_zero]
  have h1 : bt s ((a : Int) + 1) = v := by
    have := bt_drop s a _ h 1 (by rw [List.length_append]; omega)
    rw [show ((a : Int) + ((1 : Nat) : Int)) = (a : Int) + 1 by omega] at this
    rw [this]
    simp only [hL, List.getElem_cons_succ, List.getElem_cons_zero]
  have hd2 : (frB v body ++ r).drop 2 = numS body.size ++ (bytesOf body ++ (eightS (sumS (231 :: v :: (numS body.size ++ bytesOf body))) ++ r)) := by rw [hL]; rfl
  have hT := tn_drop s a _ h (by rw [List.length_append]; omega)
  rw [hd2, tnS_canon _ _ (canon_numS body.size) (by rw [valS_numS]; omega), valS_numS] at hT
  simp only [if_pos] at hT
  have e8 : (eightS (sumS (231 :: v :: (numS body.size ++ bytesOf body)))).length = 8 := rfl
  have x1 : bytesOf (s.extract a (a + (2 + (numS body.size).length + body.size))) = 231 :: v :: (numS body.size ++ bytesOf body) := by
    rw [ext_bytes s a _ _ _ h rfl]
    unfold frB
    rw [List.append_assoc, List.take_append_of_le_length (by simp [size_bytesOf]; omega), List.take_of_length_le (by simp [size_bytesOf]; omega)]
  have x2 : bytesOf (s.extract (a + (2 + (numS body.size).length + body.size)) (a + (2 + (numS body.size).length + body.size) + 8)) = eightS (sumS (231 :: v :: (numS body.size ++ bytesOf body))) := by
    have hd : (bytesOf s).drop (a + (2 + (numS body.size).length + body.size)) = eightS (sumS (231 :: v :: (numS body.size ++ bytesOf body))) ++ r := by
      rw [← List.drop_drop, h]
      unfold frB
      rw [List.append_assoc, List.drop_append_of_le_length (by simp [size_bytesOf]; omega), List.drop_of_length_le (by simp [size_bytesOf]; omega)]
      rfl
    rw [ext_bytes s _ _ 8 _ hd rfl, List.take_append_of_le_length (by omega), List.take_of_length_le (by omega)]
  have x3 : s.extract (a + (2 + (numS body.size).length)) (a + (2 + (numS body.size).length + body.size)) = body := by
    apply bytesOf_inj
    have hd : (bytesOf s).drop (a + (2 + (numS body.size).length)) = bytesOf body ++ (eightS (sumS (231 :: v :: (numS body.size ++ bytesOf body))) ++ r) := by
      rw [← List.drop_drop, h, hL, show 231 :: v :: (numS body.size ++ (bytesOf body ++ (eightS (sumS (231 :: v :: (numS body.size ++ bytesOf body))) ++ r))) = (231 :: v :: numS body.size) ++ (bytesOf body ++ (eightS (sumS (231 :: v :: (numS body.size ++ bytesOf body))) ++ r)) from rfl,
        List.drop_append_of_le_length (by simp; omega), List.drop_of_length_le (by simp; omega)]
      rfl
    rw [ext_bytes s _ _ body.size _ hd (by omega), List.take_append_of_le_length (by rw [size_bytesOf]; omega), List.take_of_length_le (by rw [size_bytesOf]; omega)]
  unfold OP
  rw [if_neg (by omega), if_neg (by omega), h0, if_pos rfl, if_neg (by omega), h1, if_pos rfl, hT]
  simp only
  rw [if_pos trivial, if_neg (by omega), if_neg (by omega)]
  have n1 : ((a : Int) + 2 + ((numS body.size).length : Int) + (body.size : Int)).toNat = a + (2 + (numS body.size).length + body.size) := by omega
  have n2 : ((a : Int) + 2 + ((numS body.size).length : Int) + (body.size : Int) + 8).toNat = a + (2 + (numS body.size).length + body.size) + 8 := by omega
  have n3 : ((a : Int) + 2 + ((numS body.size).length : Int)).toNat = a + (2 + (numS body.size).length) := by omega
  rw [n1, n2, n3, Int.toNat_natCast, x1, x3]
  rw [if_pos (bytesOf_inj (by rw [eightB_bytes, x2]))]
  rw [hfl]
  simp only [Prod.mk.injEq, true_and, and_true]
  omega
/-- A beginning of a frame, but not all of it. -/
theorem op_short (s : ByteArray) (a : Nat) (ha : a ≤ s.size) (v : Int) (hv : VOK v) (body : ByteArray) (hb : body.size ≤ 30000) (q t : List Int) (h : (bytesOf s).drop a = q) (hq : q ++ t = frB v body) (ht : t ≠ []) :
    OP s (a : Int) v = (E0, 0, 10) := by
  have hfl := frB_len v body
  have hs : q.length = s.size - a := by rw [← h, List.length_drop, size_bytesOf]
  have hql : q.length < (frB v body).length := by
    rw [← hq, List.length_append]
    have := List.length_pos_iff.2 ht
    omega
  have hv0 := hv.1
  have hv1 := hv.2
  unfold OP
  rw [if_neg (by omega)]
  rcases q with _ | ⟨q0, q⟩
  · rw [if_pos (by simp at hs; omega)]
  have hF : frB v body = 231 :: v :: (numS body.size ++ (bytesOf body ++ eightS (sumS (231 :: v :: (numS body.size ++ bytesOf body))))) := by
    unfold frB
    simp
  rw [hF] at hq
  have hq0 : q0 = 231 := by
    have := congrArg List.head? hq
    simpa using this
  subst hq0
  have h0 : bt s (a : Int) = 231 := by
    have := bt_drop s a _ h 0 (by simp)
    rw [show ((a : Int) + ((0 : Nat) : Int)) = (a : Int) by omega] at this
    exact this
  simp only [List.length_cons] at hs
  rw [if_neg (by omega), h0, if_pos rfl]
  rcases q with _ | ⟨q1, q⟩
  · simp at hs
    rw [if_pos (by omega)]
  simp only [List.length_cons] at hs
  have hq1 : q1 = v := by
    have := congrArg (fun l : List Int => l[1]?) hq
    simpa using this
  subst hq1
  have h1 : bt s ((a : Int) + 1) = q1 := by
    have := bt_drop s a _ h 1 (by simp)
    rw [show ((a : Int) + ((1 : Nat) : Int)) = (a : Int) + 1 by omega] at this
    exact this
  rw [if_neg (by omega), h1, if_pos rfl]
  have hT := tn_drop s a _ h (by simp)
  have hd2 : (231 :: q1 :: q : List Int).drop 2 = q := rfl
  rw [hd2] at hT
  have hq2 : q ++ t = numS body.size ++ (bytesOf body ++ eightS (sumS (231 :: q1 :: (numS body.size ++ bytesOf body)))) := by simpa using hq
  have h10 := numS_ten body.size (by omega)
  by_cases c : q.length < (numS body.size).length
  · have e : numS body.size = q ++ (numS body.size).drop q.length := by
      have e1 := congrArg (List.take q.length) hq2
      rw [List.take_append_of_le_length (Nat.le_refl _), List.take_length, List.take_append_of_le_length (by omega)] at e1
      conv => lhs; rw [← List.take_append_drop q.length (numS body.size)]
      rw [← e1]
    rw [tnS_short (numS body.size) q (canon_numS _) h10 _ (by
      intro e2
      have := congrArg List.length e2
      simp at this
      omega) e] at hT
    rw [hT]
    simp
  · have e : q = numS body.size ++ q.drop (numS body.size).length := by
      have e1 := congrArg (List.take (numS body.size).length) hq2
      rw [List.take_append_of_le_length (by omega), List.take_append_of_le_length (Nat.le_refl _), List.take_length] at e1
      conv => lhs; rw [← List.take_append_drop (numS body.size).length q]
      rw [e1]
    rw [e, tnS_canon _ _ (canon_numS body.size) (by rw [valS_numS]; omega), valS_numS] at hT
    simp only [if_pos] at hT
    rw [hT]
    simp only
    rw [if_pos trivial, if_neg (by omega), if_pos]
    have hlen := congrArg List.length hq2
    have := List.length_pos_iff.2 ht
    have e8 : (eightS (sumS (231 :: q1 :: (numS body.size ++ bytesOf body)))).length = 8 := rfl
    simp only [List.length_append, size_bytesOf, e8] at hlen
    omega
/-- What Open tells stood there. -/
theorem op_ok (s : ByteArray) (a v : Int) (b : ByteArray) (q : Int) (h : OP s a v = (b, q, 0)) :
    VOK v ∧ 0 ≤ a ∧ b.size ≤ 30000 ∧ (bytesOf s).drop a.toNat = frB v b ++ (bytesOf s).drop q.toNat ∧ q = a + (frB v b).length ∧ q ≤ (s.size : Int) := by
  unfold OP at h
  by_cases c0 : a < 0 ∨ a > (s.size : Int) ∨ v < 0 ∨ v > 255
  · rw [if_pos c0] at h
    simp at h
  rw [if_neg c0] at h
  obtain ⟨a, rfl⟩ : ∃ n : Nat, a = (n : Int) := ⟨a.toNat, by omega⟩
  rw [Int.toNat_natCast] at h ⊢
  by_cases c1 : (a : Int) = (s.size : Int)
  · rw [if_pos c1] at h
    simp at h
  rw [if_neg c1] at h
  by_cases c2 : bt s (a : Int) = 231
  rotate_left
  · rw [if_neg c2] at h
    simp at h
  rw [if_pos c2] at h
  by_cases c3 : (a : Int) + 1 = (s.size : Int)
  · rw [if_pos c3] at h
    simp at h
  rw [if_neg c3] at h
  by_cases c4 : bt s ((a : Int) + 1) = v
  rotate_left
  · rw [if_neg c4] at h
    simp at h
  rw [if_pos c4] at h
  obtain ⟨l, hl⟩ : ∃ l, (bytesOf s).drop a = l := ⟨_, rfl⟩
  have hs : l.length = s.size - a := by rw [← hl, List.length_drop, size_bytesOf]
  have hT := tn_drop s a l hl (by omega)
  rw [hT] at h
  simp only at h
  by_cases c5 : (tnS (l.drop 2) 0 0).2.2 = 0
  rotate_left
  · rw [if_neg c5] at h
    simp only [Prod.mk.injEq] at h
    exact absurd h.2.2 c5
  rw [if_pos c5, if_pos c5] at h
  have hbl : ∀ x ∈ l.drop 2, Byte x := fun x hx => bytesOf_byte s x (List.mem_of_mem_drop (by rw [hl]; exact List.mem_of_mem_drop hx))
  obtain ⟨m, r, em, hm, hm10, et, hval⟩ := tnS_ok (l.drop 2) hbl c5
  rw [et] at h
  simp only at h
  by_cases c6 : valS m > 30000
  · rw [if_pos c6] at h
    simp at h
  rw [if_neg c6] at h
  by_cases c7 : valS m + 8 > (s.size : Int) - ((a : Int) + 2 + (m.length : Int))
  · rw [if_pos c7] at h
    simp at h
  rw [if_neg c7] at h
  obtain ⟨n, hn⟩ : ∃ n : Nat, valS m = (n : Int) := ⟨(valS m).toNat, by have := valS_nonneg m; omega⟩
  have hmn : m = numS n := by rw [← canon_val m hm, hn, Int.toNat_natCast]
  rw [hn] at h c6 c7
  have n1 : ((a : Int) + 2 + (m.length : Int) + (n : Int)).toNat = a + (2 + m.length + n) := by omega
  have n2 : ((a : Int) + 2 + (m.length : Int) + (n : Int) + 8).toNat = a + (2 + m.length + n) + 8 := by omega
  have n3 : ((a : Int) + 2 + (m.length : Int)).toNat = a + (2 + m.length) := by omega
  rw [n1, n2, n3] at h
  -- the bytes
  have l0 : l[0]'(by omega) = 231 := by
    have := bt_drop s a l hl 0 (by omega)
    rw [show ((a : Int) + ((0 : Nat) : Int)) = (a : Int) by omega, c2] at this
    exact this.symm
  have l1 : l[1]'(by omega) = v := by
    have := bt_drop s a l hl 1 (by omega)
    rw [show ((a : Int) + ((1 : Nat) : Int)) = (a : Int) + 1 by omega, c4] at this
    exact this.symm
  have hl2 : l = 231 :: v :: (m ++ r) := by
    rw [← em]
    rcases l with _ | ⟨x, _ | ⟨y, l⟩⟩
    · simp at hs; omega
    · simp at hs; omega
    · simp at l0 l1
      rw [l0, l1]
      rfl
  have hrl : r.length = s.size - a - 2 - m.length := by
    have := congrArg List.length hl2
    simp at this
    omega
  by_cases c8 : eightB (sumS (bytesOf (s.extract a (a + (2 + m.length + n))))) = s.extract (a + (2 + m.length + n)) (a + (2 + m.length + n) + 8)
  rotate_left
  · rw [if_neg c8] at h
    simp at h
  rw [if_pos c8] at h
  simp only [Prod.mk.injEq, and_true] at h
  obtain ⟨hb, hq⟩ := h
  have hbb : bytesOf b = r.take n := by
    rw [← hb]
    have hd : (bytesOf s).drop (a + (2 + m.length)) = r := by
      rw [← List.drop_drop, hl, hl2, show 231 :: v :: (m ++ r) = (231 :: v :: m) ++ r from rfl, List.drop_append_of_le_length (by simp; omega), List.drop_of_length_le (by simp; omega)]
      rfl
    exact ext_bytes s _ _ n _ hd (by omega)
  have hbs : b.size = n := by rw [← size_bytesOf, hbb, List.length_take]; omega
  have x1 : bytesOf (s.extract a (a + (2 + m.length + n))) = 231 :: v :: (m ++ r.take n) := by
    rw [ext_bytes s a _ _ l hl rfl, hl2, show 2 + m.length + n = (m.length + n) + 1 + 1 by omega, List.take_succ_cons, List.take_succ_cons, List.take_append, List.take_of_length_le (by omega), Nat.add_sub_cancel_left]
  have x2 : bytesOf (s.extract (a + (2 + m.length + n)) (a + (2 + m.length + n) + 8)) = (r.drop n).take 8 := by
    have hd : (bytesOf s).drop (a + (2 + m.length + n)) = r.drop n := by
      rw [← List.drop_drop, hl, hl2, show 2 + m.length + n = (m.length + n) + 1 + 1 by omega, List.drop_succ_cons, List.drop_succ_cons, List.drop_append, List.drop_of_length_le (by omega), Nat.add_sub_cancel_left]
      rfl
    exact ext_bytes s _ _ 8 _ hd rfl
  have x3 := congrArg bytesOf c8
  rw [eightB_bytes, x1, x2] at x3
  have hfr : frB v b = 231 :: v :: (m ++ r.take n) ++ (r.drop n).take 8 := by
    unfold frB
    rw [hbs, ← hmn, hbb, x3]
  have hlen := frB_len v b
  rw [hbs, ← hmn] at hlen
  refine ⟨⟨by omega, by omega⟩, by omega, by omega, ?_, ?_, by omega⟩
  · have hqn : q.toNat = a + (2 + m.length + n + 8) := by omega
    rw [hqn, ← List.drop_drop, hl, hfr]
    conv => lhs; rw [hl2]
    rw [hl2, show 2 + m.length + n + 8 = (m.length + (n + 8)) + 1 + 1 by omega, List.drop_succ_cons, List.drop_succ_cons, List.drop_append, List.drop_of_length_le (by omega : m.length ≤ m.length + (n + 8)), Nat.add_sub_cancel_left, List.nil_append]
    have e1 : r = r.take n ++ ((r.drop n).take 8 ++ r.drop (n + 8)) := by
      rw [← List.drop_drop, List.take_append_drop, List.take_append_drop]
    conv => lhs; rw [e1]
    simp
  · rw [hlen, ← hq]
    omega
theorem op_err (s : ByteArray) (a v : Int) (ha : 0 ≤ a ∧ a ≤ (s.size : Int)) (hv : VOK v) : (OP s a v).2.2 ≠ 2 := by
  have hv0 := hv.1
  have hv1 := hv.2
  unfold OP
  rw [if_neg (by omega)]
  split
  · decide
  split
  · split
    · decide
    split
    · split
      · split
        · decide
        split
        · decide
        split
        · show (0 : Int) ≠ 2
          decide
        · decide
      · rename_i c
        have : (TN s (a + 2)).2.2 ≠ 2 := by
          rename_i c3 c4
          unfold TN
          rw [if_neg (by omega)]
          rcases tnS_err ((bytesOf s).drop (a + 2).toNat) 0 0 with h | ⟨_, _, h | h⟩ <;> simp [h]
        exact this
    · decide
  · decide
/-- What Small counts. -/
def sm : List ByteArray → Int
  | [] => 0
  | s :: l => mn (s.size : Int) 100000 + 10 + sm l
theorem sm_pos (l : List ByteArray) : 0 ≤ sm l := by
  induction l with
  | nil => simp [sm]
  | cons s l ih => simp only [sm]; unfold mn; split <;> omega
theorem small_loop (l : List ByteArray) (hl : l.length ≤ 140737488351232) (d : Nat) : ∀ (i : Nat) (n : Int), i + d = l.length → 0 ≤ n → n ≤ 50000 →
    Ev (fun k => ententelaw01_Small.l0 k l n (i : Int)) (decide (n + sm (l.drop i) ≤ 50000)) := by
  induction d with
  | zero =>
    intro i n hi h0 h1
    refine Ev.step (f := fun _ => some (decide (n + sm (l.drop i) ≤ 50000))) (fun k => ?_) (Ev.now _)
    simp only [ententelaw01_Small.l0]
    rw [if_neg (by omega), List.drop_eq_nil_of_le (by omega)]
    congr 1
    exact (decide_eq_true (by simp only [sm]; omega)).symm
  | succ d ih =>
    intro i n hi h0 h1
    have hd := drop_rdOf l i (by omega)
    have h2 : wrap64 ((i : Int) + 1) = ((i + 1 : Nat) : Int) := by unfold wrap64; omega
    have hm : 0 ≤ mn ((rdOf ByteArray.empty l (i : Int)).size : Int) 100000 ∧ mn ((rdOf ByteArray.empty l (i : Int)).size : Int) 100000 ≤ 100000 := by unfold mn; split <;> omega
    have hp := sm_pos (l.drop (i + 1))
    have es : n + sm (rdOf ByteArray.empty l (i : Int) :: l.drop (i + 1)) = n + (mn ((rdOf ByteArray.empty l (i : Int)).size : Int) 100000 + 10) + sm (l.drop (i + 1)) := by simp only [sm]; omega
    rw [hd, es]
    have hw : wrap64 (n + (mn ((rdOf ByteArray.empty l (i : Int)).size : Int) 100000 + 10)) = n + (mn ((rdOf ByteArray.empty l (i : Int)).size : Int) 100000 + 10) := wr _ (by omega)
    by_cases c : n + (mn ((rdOf ByteArray.empty l (i : Int)).size : Int) 100000 + 10) > 50000
    · refine Ev.step (f := fun _ => some false) (fun k => ?_) ?_
      · simp only [ententelaw01_Small.l0]
        rw [if_pos (by omega), if_pos (by omega), hw, if_pos c]
      · rw [decide_eq_false (by omega)]
        exact Ev.now _
    · refine Ev.step (f := fun k => ententelaw01_Small.l0 k l (n + (mn ((rdOf ByteArray.empty l (i : Int)).size : Int) 100000 + 10)) ((i + 1 : Nat) : Int)) (fun k => ?_) (ih (i + 1) _ (by omega) (by omega) (by omega))
      simp only [ententelaw01_Small.l0]
      rw [if_pos (by omega), if_pos (by omega), hw, if_neg c, h2]
theorem small_ev (l : List ByteArray) (hl : l.length ≤ 140737488351232) : Ev (fun k => ententelaw01_Small.f k l) (decide (sm l ≤ 50000)) := by
  have := small_loop l hl l.length 0 0 (by omega) (by omega) (by omega)
  rw [List.drop_zero, Int.zero_add] at this
  exact this
theorem awake_ev : Ev (fun k => ententelaw16_awake.f k) true := Ev.of ententelaw16_awake.mono (k := 60) (by decide +kernel)
theorem awake_ends : Ev (fun k => (ententelaw16_awake.f k).bind fun t => some t) true := Ev.bind (f := fun _ t => some t) awake_ev (Ev.now _)
theorem seal_size (b : ByteArray) (h : (SEAL 3 b).2 = 0) : (SEAL 3 b).1.size ≤ 30020 := by
  by_cases c : VOK 3 ∧ (b.size : Int) ≤ 30000
  · rw [seal_ok 3 c.1 b c.2]
    have h1 : (FR 3 b).size = (frB 3 b).length := by rw [← size_bytesOf, fr_bytes 3 c.1]
    have h2 := frB_len 3 b
    have h3 := nm_ten (b.size : Int) (by omega)
    rw [nm_size] at h3
    rw [Int.toNat_natCast] at h3
    show (FR 3 b).size ≤ 30020
    omega
  · exact absurd h (seal_bad 3 b c)
theorem next_both (l : List ByteArray) (hl : l.length ≤ 1000000) (d : Nat) : ∀ (i : Nat) (acc : ByteArray), i + d = l.length → acc.size + 40000 * d ≤ 1000000000000 →
    ∃ r, Ev (fun k => segment_Next.l0 k acc l (l.length : Int) (i : Int)) r ∧ Ev (fun k => ententeref16_Next.l0 k l acc (i : Int)) r := by
  induction d with
  | zero =>
    intro i acc hi ha
    refine ⟨(acc, 0), ?_, ?_⟩
    · refine Ev.step (fun k => by rw [segment_Next.l0]) ?_
      exact ev_neg (by omega) (Ev.now _)
    · refine Ev.step (fun k => by rw [ententeref16_Next.l0]) ?_
      exact ev_neg (by omega) (Ev.now _)
  | succ d ih =>
    intro i acc hi ha
    by_cases c : (SEAL 3 (rdOf ByteArray.empty l (i : Int))).2 = 0
    · have hz := seal_size _ c
      obtain ⟨r, h1, h2⟩ := ih (i + 1) (acc ++ (SEAL 3 (rdOf ByteArray.empty l (i : Int))).1) (by omega) (by rw [size_app]; omega)
      have e1 : wrap64 ((i : Int) + 1) = ((i + 1 : Nat) : Int) := by unfold wrap64; omega
      refine ⟨r, ?_, ?_⟩
      · refine Ev.step (fun k => by rw [segment_Next.l0]) ?_
        refine ev_pos (by omega) (ev_pos (by omega) (ev_pos (by omega) (Ev.bind (seal_ev 3 _) ?_)))
        refine ev_pos c (ev_pos (by omega) ?_)
        rw [e1]
        exact h1
      · refine Ev.step (fun k => by rw [ententeref16_Next.l0]) ?_
        refine ev_pos (by omega) (ev_pos (by omega) (Ev.bind (rseal_ev 3 _) ?_))
        refine ev_pos c (ev_pos (by omega) ?_)
        rw [e1]
        exact h2
    · refine ⟨(⟨#[]⟩, (SEAL 3 (rdOf ByteArray.empty l (i : Int))).2), ?_, ?_⟩
      · refine Ev.step (fun k => by rw [segment_Next.l0]) ?_
        refine ev_pos (by omega) (ev_pos (by omega) (ev_pos (by omega) (Ev.bind (seal_ev 3 _) ?_)))
        exact ev_neg c (Ev.now _)
      · refine Ev.step (fun k => by rw [ententeref16_Next.l0]) ?_
        refine ev_pos (by omega) (ev_pos (by omega) (Ev.bind (rseal_ev 3 _) ?_))
        exact ev_neg c (Ev.now _)
theorem sm_len (l : List ByteArray) : 10 * (l.length : Int) ≤ sm l := by
  induction l with
  | nil => simp [sm]
  | cons b l ih => simp only [sm, List.length_cons]; unfold mn; split <;> omega
theorem begin_ev (b : ByteArray) : Ev (fun k => segment_Begin.f k b) (SEAL 3 b) := by
  unfold segment_Begin.f
  exact Ev.bind (seal_ev 3 b) (ev_eq (Ev.now _) rfl)
theorem SegmentMakes : ententelaw16_SegmentMakes.Pure := by
  intro a l h1 h2
  refine Ev.rounds (g := fun k => ententelaw16_SegmentMakes.f k a l) ?_
  unfold ententelaw16_SegmentMakes.f
  refine Ev.bind (small_ev l (by omega)) ?_
  by_cases c : sm l ≤ 50000
  · rw [decide_eq_true c]
    have hl := sm_len l
    refine ev_pos rfl ?_
    obtain ⟨r, i1, i2⟩ := next_both l (by omega) l.length 0 ⟨#[]⟩ (by omega) (by show 0 + 40000 * l.length ≤ _; omega)
    refine Ev.bind (begin_ev a) (Ev.bind (rseal_ev 3 a) (Ev.bind (g := fun k => segment_Next.f k l) i1 (Ev.bind (g := fun k => ententeref16_Next.f k l) i2 ?_)))
    exact ev_pos rfl (ev_pos rfl (ev_pos rfl (ev_pos rfl awake_ends)))
  · rw [decide_eq_false c]
    exact ev_neg Bool.false_ne_true awake_ends

end Go.Proofs.Yticnbjfmjhdjoaa.Pure
