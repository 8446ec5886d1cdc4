/- SealSums: proved for all arguments; no condition. -/
import Derived.Test.YtfjemhfcdbjolaaNum
import Derived.Test.YtfjemhfcdbjolaaPBx4
namespace Go.Proofs.Ytfjemhfcdbjolaa.Pure
open Go.RowKit Go.Proofs.Ytfjemhfcdbjolaa.PB Go.Proofs.YtfjemhfcdbjolaaW.PrintWords Go.Proofs.YtfjemhfcdbjolaaW.PrintLast Go.Proofs.YtfjemhfcdbjolaaW.PrintMore Go.Proofs.Ytfjemhfcdbjolaa.Num
set_option linter.unusedVariables false
set_option linter.unusedSimpArgs false

/-- A number's form. -/
def Nm (n : Int) : ByteArray := strOfNums (numS n.toNat)
theorem nm_bytes (n : Int) : bytesOf (Nm n) = numS n.toNat := bytesOf_nums _ (numS_byte _)
theorem nm_size (n : Int) : (Nm n).size = (numS n.toNat).length := by rw [← size_bytesOf, nm_bytes]
theorem nm_ten (n : Int) (h : 0 ≤ n ∧ n < 18446744073709551616) : 1 ≤ (Nm n).size ∧ (Nm n).size ≤ 10 := by
  rw [nm_size]
  exact ⟨numS_pos _, numS_ten _ (by omega)⟩
theorem number_loop (n : Nat) : ∀ acc : List Int, acc.length + (numS n).length ≤ 1000 → Ev (fun k => pack_Number.l0 k (n : Int) acc) (strOfNums (acc ++ numS n)) := by
  induction n using Nat.strongRecOn with
  | _ n ih =>
    intro acc hl
    have hp := numS_pos n
    by_cases h : n < 128
    · refine Ev.step (f := fun _ => some (strOfNums (acc ++ numS n))) (fun k => ?_) (Ev.now _)
      simp only [pack_Number.l0]
      rw [if_neg (by omega), if_pos (by omega), numS_small h]
      congr 4
      omega
    · have e := numS_big h
      rw [e, List.length_cons] at hl
      have := ih (n / 128) (by omega) (acc ++ [((n % 128 + 128 : Nat) : Int)]) (by rw [List.length_append, List.length_singleton]; omega)
      rw [e]
      rw [List.append_assoc, List.singleton_append] at this
      refine Ev.step (fun k => ?_) this
      simp only [pack_Number.l0]
      rw [if_pos (by omega), if_pos (by omega), or128 _ (by omega)]
      have q1 : (n : Int) / 128 = ((n / 128 : Nat) : Int) := by omega
      have q2 : (n : Int) % 256 % 128 + 128 = ((n % 128 + 128 : Nat) : Int) := by omega
      rw [q1, q2]
theorem number_ev (n : Int) (h : 0 ≤ n ∧ n < 18446744073709551616) : Ev (fun k => pack_Number.f k n) (Nm n) := by
  obtain ⟨m, rfl⟩ := Int.eq_ofNat_of_zero_le h.1
  have := number_loop m [] (by have := numS_ten m (by omega); simp; omega)
  rw [List.nil_append] at this
  exact this
/-- A text's form. -/
def Tx (s : ByteArray) : ByteArray := Nm (s.size : Int) ++ s
theorem size_app (s t : ByteArray) : (s ++ t).size = s.size + t.size := by
  rw [← size_bytesOf, bytesOf_append, List.length_append, size_bytesOf, size_bytesOf]
theorem tx_size (s : ByteArray) (h : s.size ≤ 140737488351232) : (Tx s).size ≤ s.size + 10 := by
  unfold Tx
  have := (nm_ten (s.size : Int) (by omega)).2
  rw [size_app]; omega
theorem text_ev (s : ByteArray) (h : s.size ≤ 140737488351232) : Ev (fun k => pack_Text.f k s) (Tx s) := by
  have hn := nm_ten (s.size : Int) (by omega)
  have hu := uw (s.size : Int) (by omega)
  unfold pack_Text.f
  rw [hu]
  refine Ev.bind (number_ev (s.size : Int) (by omega)) ?_
  refine Ev.congr (f := fun _ => some (Tx s)) (fun k => ?_) (Ev.now _)
  rw [if_pos (by omega)]
  rfl
/-- Texts, one behind the other. -/
def cat : List ByteArray → ByteArray
  | [] => ByteArray.empty
  | s :: l => s ++ cat l
theorem drop_rdOf (l : List ByteArray) (i : Nat) (h : i < l.length) : l.drop i = rdOf ByteArray.empty l (i : Int) :: l.drop (i + 1) := by
  rw [List.drop_eq_getElem_cons h]
  congr 1
  unfold rdOf
  simp [List.getD_eq_getElem?_getD, List.getElem?_eq_getElem h]
theorem app_assoc (a b c : ByteArray) : a ++ b ++ c = a ++ (b ++ c) := bytesOf_inj (by simp only [bytesOf_append, List.append_assoc])
theorem app_empty (a : ByteArray) : a ++ ByteArray.empty = a := bytesOf_inj (by simp only [bytesOf_append, bytesOf_empty, List.append_nil])
/-! The register, as 64 bits. -/
def I64 (x : BitVec 64) : Int := (x.toNat : Int)
def B64 (n : Int) : BitVec 64 := BitVec.ofNat 64 n.toNat
theorem i64_range (x : BitVec 64) : 0 ≤ I64 x ∧ I64 x < 18446744073709551616 := by
  have := x.isLt
  unfold I64
  omega
theorem i64_b64 (n : Int) (h : 0 ≤ n ∧ n < 18446744073709551616) : I64 (B64 n) = n := by
  unfold I64 B64
  rw [BitVec.toNat_ofNat]
  omega
theorem b64_i64 (x : BitVec 64) : B64 (I64 x) = x := by
  unfold I64 B64
  rw [Int.toNat_natCast, BitVec.ofNat_toNat]
  simp
theorem i64_inj {x y : BitVec 64} (h : I64 x = I64 y) : x = y := by rw [← b64_i64 x, h, b64_i64]
theorem ofInt_i64 (x : BitVec 64) : BitVec.ofInt 64 (I64 x) = x := by
  unfold I64
  rw [BitVec.ofInt_natCast, BitVec.ofNat_toNat]
  simp
theorem xor_is (x y : BitVec 64) : Go.bits .xor .u64 (I64 x) (I64 y) = I64 (x ^^^ y) := by
  have h : Go.bits .xor .u64 (I64 x) (I64 y) = IntKind.u64.wrap (((BitVec.ofInt 64 (I64 x) ^^^ BitVec.ofInt 64 (I64 y)).toNat : Nat) : Int) := rfl
  rw [h, ofInt_i64, ofInt_i64]
  exact uw _ (i64_range _)
theorem and_is (x y : BitVec 64) : Go.bits .and .u64 (I64 x) (I64 y) = I64 (x &&& y) := by
  have h : Go.bits .and .u64 (I64 x) (I64 y) = IntKind.u64.wrap (((BitVec.ofInt 64 (I64 x) &&& BitVec.ofInt 64 (I64 y)).toNat : Nat) : Int) := rfl
  rw [h, ofInt_i64, ofInt_i64]
  exact uw _ (i64_range _)
theorem div16_is (x : BitVec 64) : I64 x / (16 : Int) = I64 (x >>> (4 : Nat)) := by
  unfold I64
  rw [BitVec.toNat_ushiftRight, Nat.shiftRight_eq_div_pow]
  omega
theorem div2_is (x : BitVec 64) : I64 x / (2 : Int) = I64 (x >>> (1 : Nat)) := by
  unfold I64
  rw [BitVec.toNat_ushiftRight, Nat.shiftRight_eq_div_pow]
  omega
/-- The polynomial. -/
def poly : BitVec 64 := 14514072000185962306#64
/-- One bit's step. -/
def st (x : BitVec 64) : BitVec 64 := (x >>> 1) ^^^ (if x.getLsbD 0 = true then poly else 0#64)
theorem st_xor (x y : BitVec 64) : st (x ^^^ y) = st x ^^^ st y := by
  unfold st
  rw [BitVec.ushiftRight_xor_distrib, BitVec.getLsbD_xor]
  cases x.getLsbD 0 <;> cases y.getLsbD 0 <;> simp
  · rw [BitVec.xor_assoc]
  · rw [BitVec.xor_assoc, BitVec.xor_assoc, BitVec.xor_comm (y >>> 1) poly]
  · rw [BitVec.xor_assoc (x >>> 1), BitVec.xor_comm poly, BitVec.xor_assoc (y >>> 1), BitVec.xor_self, BitVec.xor_zero]
def stn : Nat → BitVec 64 → BitVec 64
  | 0, x => x
  | n + 1, x => st (stn n x)
theorem stn_xor (n : Nat) (x y : BitVec 64) : stn n (x ^^^ y) = stn n x ^^^ stn n y := by
  induction n with
  | zero => rfl
  | succ n ih => rw [stn, ih, st_xor]; rfl
theorem stn_add (m n : Nat) (x : BitVec 64) : stn m (stn n x) = stn (m + n) x := by
  induction m with
  | zero => rw [Nat.zero_add]; rfl
  | succ m ih => rw [show m + 1 + n = (m + n) + 1 by omega, stn, ih]; rfl
theorem st_even (x : BitVec 64) (h : x.getLsbD 0 = false) : st x = x >>> 1 := by
  unfold st
  rw [h]
  simp
theorem stn_shift (n : Nat) (x : BitVec 64) (h : ∀ i, i < n → x.getLsbD i = false) : stn n x = x >>> n := by
  induction n with
  | zero => simp [stn]
  | succ n ih =>
    rw [stn, ih (fun i hi => h i (by omega)), st_even]
    · rw [BitVec.shiftRight_add]
    · rw [BitVec.getLsbD_ushiftRight, Nat.add_zero]
      exact h n (by omega)
theorem low_high (x : BitVec 64) : x = (x &&& 15#64) ^^^ (x &&& ~~~15#64) := by
  ext i hi
  simp only [BitVec.getElem_xor, BitVec.getElem_and, BitVec.getElem_not]
  cases x[i] <;> cases (15#64)[i] <;> rfl
theorem high_low (x : BitVec 64) : ∀ i, i < 4 → (x &&& ~~~15#64).getLsbD i = false := by
  intro i hi
  have : (~~~15#64).getLsbD i = false := by
    match i with
    | 0 | 1 | 2 | 3 => decide
    | i + 4 => omega
  rw [BitVec.getLsbD_and, this, Bool.and_false]
theorem high_shift (x : BitVec 64) : (x &&& ~~~15#64) >>> 4 = x >>> 4 := by
  rw [BitVec.ushiftRight_and_distrib]
  have : ((~~~15#64) >>> 4 : BitVec 64) = 1152921504606846975#64 := by decide
  rw [this]
  apply BitVec.eq_of_toNat_eq
  rw [BitVec.toNat_and, BitVec.toNat_ushiftRight, Nat.shiftRight_eq_div_pow]
  have h := x.isLt
  have e : (1152921504606846975#64).toNat = 2 ^ 60 - 1 := by decide
  rw [e, Nat.and_two_pow_sub_one_eq_mod, Nat.mod_eq_of_lt (by omega)]
theorem tab_is : ∀ n : Fin 16, rd seal_tab (n.val : Int) = I64 (stn 4 (BitVec.ofNat 64 n.val)) := by decide +kernel
theorem half_is (x : BitVec 64) : seal_half (I64 x) = I64 (stn 4 x) := by
  unfold seal_half
  have e15 : (15 : Int) = I64 15#64 := rfl
  rw [e15, and_is, div16_is]
  have hlt : (x &&& 15#64).toNat < 16 := by
    rw [BitVec.toNat_and]
    have : x.toNat &&& (15#64).toNat ≤ (15#64).toNat := Nat.and_le_right
    have e : (15#64).toNat = 15 := by decide
    omega
  have h := tab_is ⟨(x &&& 15#64).toNat, hlt⟩
  have h2 : BitVec.ofNat 64 (x &&& 15#64).toNat = x &&& 15#64 := by rw [BitVec.ofNat_toNat]; simp
  rw [h2] at h
  rw [show rd seal_tab (I64 (x &&& 15#64)) = I64 (stn 4 (x &&& 15#64)) from h]
  rw [xor_is]
  congr 1
  conv => rhs; rw [low_high x]
  rw [stn_xor, stn_shift 4 _ (high_low x), high_shift, BitVec.xor_comm]
/-- One byte. -/
def inB (r : BitVec 64) (c : Int) : BitVec 64 := stn 8 (r ^^^ B64 c)
def crc (r : BitVec 64) (l : List Int) : BitVec 64 := l.foldl inB r
/-- The sum of bytes. -/
def sumS (l : List Int) : Int := I64 (~~~ crc (BitVec.allOnes 64) l)
theorem max_is : Go.IntKind.u64.max = I64 (BitVec.allOnes 64) := by decide
theorem not_is (x : BitVec 64) : Go.bits .xor .u64 Go.IntKind.u64.max (I64 x) = I64 (~~~ x) := by
  rw [max_is, xor_is, BitVec.allOnes_xor]
theorem byte_is (x : BitVec 64) (c : Int) (hc : 0 ≤ c ∧ c ≤ 255) : seal_half (seal_half (Go.bits .xor .u64 (I64 x) (IntKind.u64.wrap c))) = I64 (inB x c) := by
  have e : c = I64 (B64 c) := (i64_b64 c (by omega)).symm
  rw [uw c (by omega)]
  conv => lhs; rw [e]
  rw [xor_is, half_is, half_is, stn_add]
  rfl
theorem inner_loop (l : List ByteArray) (s : ByteArray) (hs : s.size ≤ 140737488351232) (i : Int) (res : Int) (d : Nat) : ∀ (j : Nat) (x : BitVec 64), j + d = s.size →
    Ev (fun k => seal_Sum.l0 k l (I64 (crc x ((bytesOf s).drop j))) (wrap64 (i + 1))) res → Ev (fun k => seal_Sum.l1 k l s (I64 x) i (j : Int)) res := by
  induction d with
  | zero =>
    intro j x hj h
    rw [List.drop_eq_nil_of_le (by rw [bytesOf_length]; omega)] at h
    refine Ev.step (fun k => ?_) h
    rw [seal_Sum.l1, if_neg (by omega)]
    rfl
  | succ d ih =>
    intro j x hj h
    have hd : (bytesOf s).drop j = bt s (j : Int) :: (bytesOf s).drop (j + 1) := by
      rw [List.drop_eq_getElem_cons (by rw [bytesOf_length]; omega), bt_nat s j (by omega)]
    rw [hd] at h
    refine Ev.step (fun k => ?_) (ih (j + 1) (inB x (bt s (j : Int))) (by omega) h)
    rw [seal_Sum.l1, if_pos (by omega), if_pos (by omega), byte_is x _ (bt_range s _), wr _ (by omega)]
    rfl
theorem sum_loop (l : List ByteArray) (hr : ∀ s ∈ l, s.size ≤ 140737488351232) (hl : l.length ≤ 140737488351232) (d : Nat) : ∀ (i : Nat) (x : BitVec 64), i + d = l.length →
    Ev (fun k => seal_Sum.l0 k l (I64 x) (i : Int)) (I64 (~~~ crc x (bytesOf (cat (l.drop i))))) := by
  induction d with
  | zero =>
    intro i x hi
    refine Ev.step (f := fun _ => some (I64 (~~~ crc x (bytesOf (cat (l.drop i)))))) (fun k => ?_) (Ev.now _)
    rw [seal_Sum.l0, if_neg (by omega), not_is, List.drop_eq_nil_of_le (by omega), cat, bytesOf_empty]
    rfl
  | succ d ih =>
    intro i x hi
    have hd := drop_rdOf l i (by omega)
    have hm : rdOf ByteArray.empty l (i : Int) ∈ l := List.mem_of_mem_drop (by rw [hd]; exact List.mem_cons_self ..)
    refine Ev.step (fun k => by rw [seal_Sum.l0, if_pos (by omega), if_pos (by omega)]) ?_
    refine inner_loop l (rdOf ByteArray.empty l (i : Int)) (hr _ hm) (i : Int) _ (rdOf ByteArray.empty l (i : Int)).size 0 x (by omega) ?_
    rw [List.drop_zero, hd, cat, bytesOf_append, wr _ (by omega)]
    have := ih (i + 1) (crc x (bytesOf (rdOf ByteArray.empty l (i : Int)))) (by omega)
    rw [show crc x (bytesOf (rdOf ByteArray.empty l (i : Int)) ++ bytesOf (cat (l.drop (i + 1)))) = crc (crc x (bytesOf (rdOf ByteArray.empty l (i : Int)))) (bytesOf (cat (l.drop (i + 1)))) from List.foldl_append]
    exact this
theorem sum_ev (l : List ByteArray) (hr : ∀ s ∈ l, s.size ≤ 140737488351232) (hl : l.length ≤ 140737488351232) : Ev (fun k => seal_Sum.f k l) (sumS (bytesOf (cat l))) := by
  have := sum_loop l hr hl l.length 0 (BitVec.allOnes 64) (by omega)
  rw [List.drop_zero] at this
  exact this
/-! The document's sum, bit by bit. -/
def bitN (c : Int) (b : Nat) : BitVec 64 := BitVec.ofNat 64 (c.toNat / 2 ^ b % 2)
def lowN (c : Int) (b : Nat) : BitVec 64 := BitVec.ofNat 64 (c.toNat % 2 ^ b)
theorem bits_table : ∀ (c : Fin 256) (b : Fin 8), (lowN (c.val : Int) b.val) ^^^ (bitN (c.val : Int) b.val <<< b.val) = lowN (c.val : Int) (b.val + 1) ∧ stn b.val (bitN (c.val : Int) b.val <<< b.val) = bitN (c.val : Int) b.val := by decide +kernel
theorem bits_step (c : Int) (hc : 0 ≤ c ∧ c ≤ 255) (b : Nat) (hb : b < 8) : lowN c b ^^^ (bitN c b <<< b) = lowN c (b + 1) ∧ stn b (bitN c b <<< b) = bitN c b := by
  obtain ⟨n, rfl⟩ := Int.eq_ofNat_of_zero_le hc.1
  exact bits_table ⟨n, by omega⟩ ⟨b, hb⟩
theorem feed_step (r : BitVec 64) (c : Int) (hc : 0 ≤ c ∧ c ≤ 255) (b : Nat) (hb : b < 8) : st (stn b (r ^^^ lowN c b) ^^^ bitN c b) = stn (b + 1) (r ^^^ lowN c (b + 1)) := by
  obtain ⟨h1, h2⟩ := bits_step c hc b hb
  rw [stn, ← h1, ← BitVec.xor_assoc, stn_xor b (r ^^^ lowN c b), h2]
theorem st_bit (x : BitVec 64) (b : Nat) (hb : b < 2) : st (x ^^^ BitVec.ofNat 64 b) = if x.toNat % 2 = b then x >>> 1 else (x >>> 1) ^^^ poly := by
  have hx : x.getLsbD 0 = decide (x.toNat % 2 = 1) := by
    rw [BitVec.getLsbD, Nat.testBit_zero]
  have hs : st x = if x.toNat % 2 = 1 then (x >>> 1) ^^^ poly else x >>> 1 := by
    unfold st
    rw [hx]
    by_cases g : x.toNat % 2 = 1
    · simp [g]
    · simp [g]
  rcases (show b = 0 ∨ b = 1 by omega) with rfl | rfl
  · rw [show x ^^^ BitVec.ofNat 64 0 = x by simp, hs]
    by_cases g : x.toNat % 2 = 1
    · rw [if_pos g, if_neg (by omega)]
    · rw [if_neg g, if_pos (by omega)]
  · rw [st_xor, hs, show st (BitVec.ofNat 64 1) = poly by decide]
    by_cases g : x.toNat % 2 = 1
    · rw [if_pos g, if_pos g, BitVec.xor_assoc, BitVec.xor_self, BitVec.xor_zero]
    · rw [if_neg g, if_neg g]
theorem rbits_loop (s : ByteArray) (hs : s.size ≤ 140737488351232) (i : Nat) (hi : i < s.size) (r : BitVec 64) (res : Int)
    (h : Ev (fun k => ententeref02_Sum.l0 k s (I64 (inB r (bt s (i : Int)))) (wrap64 ((i : Int) + 1))) res) (d : Nat) : ∀ b : Nat, b + d = 8 →
    Ev (fun k => ententeref02_Sum.l1 k s (I64 (stn b (r ^^^ lowN (bt s (i : Int)) b))) (i : Int) (b : Int)) res := by
  have hc := bt_range s (i : Int)
  induction d with
  | zero =>
    intro b hb
    obtain rfl : b = 8 := by omega
    have e : lowN (bt s (i : Int)) 8 = B64 (bt s (i : Int)) := by
      unfold lowN B64
      rw [Nat.mod_eq_of_lt (by omega)]
    rw [e]
    refine Ev.step (fun k => ?_) h
    rw [ententeref02_Sum.l1, if_neg (by omega)]
    rfl
  | succ d ih =>
    intro b hb
    have := ih (b + 1) (by omega)
    rw [← feed_step r _ hc b (by omega)] at this
    refine Ev.step (fun k => ?_) this
    have hshr : IntKind.u64.wrap (shr .u8 (bt s (i : Int)) (b : Int)) = ((bt s (i : Int)).toNat / 2 ^ b : Nat) := by
      have h1 : shr .u8 (bt s (i : Int)) (b : Int) = bt s (i : Int) / 2 ^ b := by
        unfold shr
        rw [Int.toNat_natCast, Nat.min_eq_left (by simp [IntKind.bits]; omega)]
      have h2 : bt s (i : Int) / 2 ^ b = ((bt s (i : Int)).toNat / 2 ^ b : Nat) := by
        have : (((bt s (i : Int)).toNat : Nat) : Int) = bt s (i : Int) := Int.toNat_of_nonneg hc.1
        conv => lhs; rw [← this]
        norm_cast
      rw [h1, h2]
      refine uw _ ⟨Int.natCast_nonneg _, ?_⟩
      have h3 : (((bt s (i : Int)).toNat / 2 ^ b : Nat) : Int) ≤ ((bt s (i : Int)).toNat : Int) := Int.ofNat_le.2 (Nat.div_le_self _ _)
      omega
    generalize hX : stn b (r ^^^ lowN (bt s (i : Int)) b) = X
    have hx := i64_range X
    have t1 : Int.tmod (I64 X) 2 = ((X.toNat % 2 : Nat) : Int) := by
      rw [Int.tmod_eq_emod_of_nonneg hx.1]
      unfold I64
      omega
    have t2 : ∀ n : Nat, Int.tmod (n : Int) 2 = ((n % 2 : Nat) : Int) := by
      intro n
      rw [Int.tmod_eq_emod_of_nonneg (by omega)]
      omega
    have t3 : IntKind.u64.wrap (Int.tdiv (I64 X) 2) = I64 (X >>> 1) := by
      rw [Int.tdiv_eq_ediv_of_nonneg hx.1, div2_is]
      exact uw _ (i64_range _)
    have hb2 : (bt s (i : Int)).toNat / 2 ^ b % 2 < 2 := Nat.mod_lt _ (by decide)
    have hst := st_bit X _ hb2
    rw [ententeref02_Sum.l1, if_pos (by omega), if_pos (by omega), if_pos (by omega), if_pos (by omega), hshr, t1, t2, t3, wr ((b : Int) + 1) (by omega)]
    show _ = ententeref02_Sum.l1 k s (I64 (st (X ^^^ BitVec.ofNat 64 ((bt s (i : Int)).toNat / 2 ^ b % 2)))) (i : Int) ((b + 1 : Nat) : Int)
    rw [hst]
    by_cases g : X.toNat % 2 = (bt s (i : Int)).toNat / 2 ^ b % 2
    · rw [if_pos (by rw [g]), if_pos g]
      rfl
    · rw [if_neg (fun h => g (by exact_mod_cast h)), if_neg g]
      have e : (14514072000185962306 : Int) = I64 poly := by decide
      rw [e, xor_is]
      rfl
theorem rsum_loop (s : ByteArray) (hs : s.size ≤ 140737488351232) (d : Nat) : ∀ (i : Nat) (r : BitVec 64), i + d = s.size →
    Ev (fun k => ententeref02_Sum.l0 k s (I64 r) (i : Int)) (I64 (~~~ crc r ((bytesOf s).drop i))) := by
  induction d with
  | zero =>
    intro i r hi
    refine Ev.step (f := fun _ => some (I64 (~~~ crc r ((bytesOf s).drop i)))) (fun k => ?_) (Ev.now _)
    rw [ententeref02_Sum.l0, if_neg (by omega), List.drop_eq_nil_of_le (by rw [bytesOf_length]; omega)]
    have hr := r.isLt
    show some (IntKind.u64.wrap (18446744073709551615 - I64 r)) = some (I64 (~~~ r))
    rw [uw _ (by unfold I64; omega)]
    unfold I64
    rw [BitVec.toNat_not]
    congr 1
    omega
  | succ d ih =>
    intro i r hi
    have hd : (bytesOf s).drop i = bt s (i : Int) :: (bytesOf s).drop (i + 1) := by
      rw [List.drop_eq_getElem_cons (by rw [bytesOf_length]; omega), bt_nat s i (by omega)]
    rw [hd]
    refine Ev.step (fun k => by rw [ententeref02_Sum.l0, if_pos (by omega)]) ?_
    have := ih (i + 1) (inB r (bt s (i : Int))) (by omega)
    have e0 : stn 0 (r ^^^ lowN (bt s (i : Int)) 0) = r := by
      show r ^^^ lowN (bt s (i : Int)) 0 = r
      unfold lowN
      rw [Nat.pow_zero, Nat.mod_one]
      simp
    have h := rbits_loop s hs i (by omega) r _ (by rw [wr _ (by omega)]; exact this) 8 0 (by omega)
    rw [e0] at h
    exact h
theorem rsum_ev (s : ByteArray) (hs : s.size ≤ 140737488351232) : Ev (fun k => ententeref02_Sum.f k s) (sumS (bytesOf s)) := by
  have := rsum_loop s hs s.size 0 (BitVec.allOnes 64) (by omega)
  rw [List.drop_zero] at this
  exact this
theorem awake_ev : Ev (fun k => ententelaw02_awake.f k) true := Ev.of ententelaw02_awake.mono (k := 60) (by decide +kernel)
theorem awake_ends : Ev (fun k => (ententelaw02_awake.f k).bind fun t => some t) true := Ev.bind (f := fun _ t => some t) awake_ev (Ev.now _)
/-- How long texts are, each with ten bytes more. -/
def room : List ByteArray → Nat
  | [] => 0
  | s :: l => s.size + 10 + room l
theorem cat_size (l : List ByteArray) : (cat l).size ≤ room l := by
  induction l with
  | nil => simp [cat, room]
  | cons s l ih =>
    simp only [cat, room, size_app]
    omega
theorem room_len (l : List ByteArray) : 10 * l.length ≤ room l := by
  induction l with
  | nil => simp [room]
  | cons s l ih => simp only [room, List.length_cons]; omega
/-- What Small counts. -/
def sm : List ByteArray → Int
  | [] => 0
  | s :: l => mn (s.size : Int) 100000 + 10 + sm l
theorem sm_pos (l : List ByteArray) : 0 ≤ sm l := by
  induction l with
  | nil => simp [sm]
  | cons s l ih => simp only [sm]; unfold mn; split <;> omega
theorem small_loop (l : List ByteArray) (hl : l.length ≤ 140737488351232) (d : Nat) : ∀ (i : Nat) (n : Int), i + d = l.length → 0 ≤ n → n ≤ 50000 →
    Ev (fun k => ententelaw01_Small.l0 k l n (i : Int)) (decide (n + sm (l.drop i) ≤ 50000)) := by
  induction d with
  | zero =>
    intro i n hi h0 h1
    refine Ev.step (f := fun _ => some (decide (n + sm (l.drop i) ≤ 50000))) (fun k => ?_) (Ev.now _)
    simp only [ententelaw01_Small.l0]
    rw [if_neg (by omega), List.drop_eq_nil_of_le (by omega)]
    congr 1
    exact (decide_eq_true (by simp only [sm]; omega)).symm
  | succ d ih =>
    intro i n hi h0 h1
    have hd := drop_rdOf l i (by omega)
    have h2 : wrap64 ((i : Int) + 1) = ((i + 1 : Nat) : Int) := by unfold wrap64; omega
    have hm : 0 ≤ mn ((rdOf ByteArray.empty l (i : Int)).size : Int) 100000 ∧ mn ((rdOf ByteArray.empty l (i : Int)).size : Int) 100000 ≤ 100000 := by unfold mn; split <;> omega
    have hp := sm_pos (l.drop (i + 1))
    have es : n + sm (rdOf ByteArray.empty l (i : Int) :: l.drop (i + 1)) = n + (mn ((rdOf ByteArray.empty l (i : Int)).size : Int) 100000 + 10) + sm (l.drop (i + 1)) := by simp only [sm]; omega
    rw [hd, es]
    have hw : wrap64 (n + (mn ((rdOf ByteArray.empty l (i : Int)).size : Int) 100000 + 10)) = n + (mn ((rdOf ByteArray.empty l (i : Int)).size : Int) 100000 + 10) := wr _ (by omega)
    by_cases c : n + (mn ((rdOf ByteArray.empty l (i : Int)).size : Int) 100000 + 10) > 50000
    · refine Ev.step (f := fun _ => some false) (fun k => ?_) ?_
      · simp only [ententelaw01_Small.l0]
        rw [if_pos (by omega), if_pos (by omega), hw, if_pos c]
      · rw [decide_eq_false (by omega)]
        exact Ev.now _
    · refine Ev.step (f := fun k => ententelaw01_Small.l0 k l (n + (mn ((rdOf ByteArray.empty l (i : Int)).size : Int) 100000 + 10)) ((i + 1 : Nat) : Int)) (fun k => ?_) (ih (i + 1) _ (by omega) (by omega) (by omega))
      simp only [ententelaw01_Small.l0]
      rw [if_pos (by omega), if_pos (by omega), hw, if_neg c, h2]
theorem small_ev (l : List ByteArray) (hl : l.length ≤ 140737488351232) : Ev (fun k => ententelaw01_Small.f k l) (decide (sm l ≤ 50000)) := by
  have := small_loop l hl l.length 0 0 (by omega) (by omega) (by omega)
  rw [List.drop_zero, Int.zero_add] at this
  exact this
theorem small_room (l : List ByteArray) (h : sm l ≤ 50000) : room l ≤ 50000 := by
  have gen : ∀ l : List ByteArray, sm l ≤ 50000 → (room l : Int) = sm l := by
    intro l
    induction l with
    | nil => intro _; simp [room, sm]
    | cons s l ih =>
      intro h
      simp only [sm] at h
      have hp := sm_pos l
      have hm : mn (s.size : Int) 100000 ≤ 50000 := by unfold mn at h ⊢; split at h <;> omega
      have he : mn (s.size : Int) 100000 = (s.size : Int) := by unfold mn at hm ⊢; split at hm <;> omega
      have := ih (by unfold mn at h; split at h <;> omega)
      simp only [room, sm]
      rw [he]
      omega
  have := gen l h
  omega
theorem joined_loop (l : List ByteArray) (hr : room l ≤ 100000000) (d : Nat) : ∀ (i : Nat) (acc : ByteArray), i + d = l.length → acc.size + room (l.drop i) ≤ 200000000 →
    Ev (fun k => ententelaw02_joined.l0 k l acc (i : Int)) (acc ++ cat (l.drop i)) := by
  induction d with
  | zero =>
    intro i acc hi ha
    refine Ev.step (f := fun _ => some (acc ++ cat (l.drop i))) (fun k => ?_) (Ev.now _)
    rw [ententelaw02_joined.l0, if_neg (by omega), List.drop_eq_nil_of_le (by omega), cat, app_empty]
  | succ d ih =>
    intro i acc hi ha
    have hd := drop_rdOf l i (by have := room_len l; omega)
    have hl := room_len l
    rw [hd] at ha ⊢
    simp only [room] at ha
    have := ih (i + 1) (acc ++ rdOf ByteArray.empty l (i : Int)) (by omega) (by rw [size_app]; omega)
    rw [app_assoc] at this
    refine Ev.step (fun k => ?_) this
    rw [ententelaw02_joined.l0, if_pos (by omega), if_pos (by omega), if_pos (by omega), wr _ (by omega)]
    rfl
theorem joined_ev (l : List ByteArray) (hr : room l ≤ 100000000) : Ev (fun k => ententelaw02_joined.f k l) (cat l) := by
  have := joined_loop l hr l.length 0 ByteArray.empty (by omega) (by rw [List.drop_zero]; simp; omega)
  rw [List.drop_zero, show ByteArray.empty ++ cat l = cat l from bytesOf_inj (by simp only [bytesOf_append, bytesOf_empty, List.nil_append])] at this
  exact this
theorem SealSums : ententelaw02_SealSums.Pure := by
  intro l h
  refine Ev.rounds (g := fun k => ententelaw02_SealSums.f k l) ?_
  unfold ententelaw02_SealSums.f
  refine Ev.bind (small_ev l (by omega)) ?_
  by_cases c : sm l ≤ 50000
  · rw [decide_eq_true c]
    refine Ev.congr (fun k => if_pos rfl) ?_
    have hr := small_room l c
    have hc := cat_size l
    refine Ev.bind (sum_ev l (fun s hs => h.2.2 s hs) (by have := room_len l; omega)) ?_
    refine Ev.bind (joined_ev l (by omega)) ?_
    refine Ev.bind (rsum_ev (cat l) (by omega)) ?_
    exact Ev.congr (fun k => if_pos rfl) awake_ends
  · rw [decide_eq_false c]
    exact Ev.congr (fun k => if_neg (by decide)) awake_ends

end Go.Proofs.Ytfjemhfcdbjolaa.Pure
