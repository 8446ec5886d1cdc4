/- Bytes as whole numbers, and numbers laid as groups of seven bits: plain laws, of no program. -/
import Derived.Test.YtcgmoeiknkdljaaWMore
import Derived.Laws.BitsLemmas
import Derived.Lib.Strings
namespace Go.Proofs.Ytcgmoeiknkdljaa.Num
open Go.RowKit Go.Proofs.YtcgmoeiknkdljaaW.PrintWords Go.Proofs.YtcgmoeiknkdljaaW.PrintLast Go.Proofs.YtcgmoeiknkdljaaW.PrintMore
set_option linter.unusedVariables false
set_option linter.unusedSimpArgs false

/-! ### rounds -/
theorem ev_shift {α : Type} {g f : Nat → Option α} {r : α} (n : Nat) (h : ∀ k, g (k + n) = f k) (hf : Ev f r) : Ev g r := by
  obtain ⟨K, hf⟩ := hf
  refine ⟨K + n, fun k hk => ?_⟩
  obtain ⟨m, rfl⟩ : ∃ m, k = m + n := ⟨k - n, by omega⟩
  rw [h]
  exact hf m (by omega)
theorem ev_up {α : Type} {g : Nat → Option α} {r : α} (n : Nat) (hf : Ev g r) : Ev (fun k => g (k + n)) r := by
  obtain ⟨K, hf⟩ := hf
  exact ⟨K, fun k hk => hf (k + n) (by omega)⟩
theorem ev_const {α : Type} {g : Nat → Option α} {r : α} (h : ∀ k, g k = some r) : Ev g r := ⟨0, fun k _ => h k⟩
theorem wr (n : Int) (h : -9223372036854775808 ≤ n ∧ n ≤ 9223372036854775807) : wrap64 n = n := by unfold wrap64; omega
theorem uw (n : Int) (h : 0 ≤ n ∧ n < 18446744073709551616) : IntKind.u64.wrap n = n := by
  simp [IntKind.wrap, IntKind.bits, IntKind.signed]; omega
theorem uw_eq (n : Int) : IntKind.u64.wrap n = n % 18446744073709551616 := by
  simp [IntKind.wrap, IntKind.bits, IntKind.signed]

/-! ### texts as lists of numbers -/
theorem bytesOf_inj {s t : ByteArray} (h : bytesOf s = bytesOf t) : s = t := by
  have h1 : s.data.toList = t.data.toList := by
    have := congrArg (List.map fun n : Int => UInt8.ofNat n.toNat) h
    simpa [bytesOf, Function.comp_def] using this
  cases s; cases t
  simp only [ByteArray.mk.injEq]
  exact Array.toList_inj.1 h1
theorem toList_iff {s t : ByteArray} : s.toList = t.toList ↔ s = t := by
  rw [Lib.toList_data, Lib.toList_data]
  constructor
  · intro h
    exact bytesOf_inj (by unfold bytesOf; rw [h])
  · intro h; rw [h]
def Byte (n : Int) : Prop := 0 ≤ n ∧ n ≤ 255
theorem bytesOf_byte (s : ByteArray) : ∀ x ∈ bytesOf s, Byte x := by
  intro x hx
  unfold bytesOf at hx
  obtain ⟨b, _, rfl⟩ := List.mem_map.1 hx
  have := b.toNat_lt
  unfold Byte; omega
theorem bytesOf_nums (xs : List Int) (h : ∀ x ∈ xs, Byte x) : bytesOf (strOfNums xs) = xs := by
  unfold bytesOf
  rw [strOfNums_data, List.map_map]
  conv => rhs; rw [← List.map_id xs]
  refine List.map_congr_left fun x hx => ?_
  have := h x hx
  unfold Byte at this
  simp only [Function.comp, UInt8.toNat_ofNat', id]
  omega
theorem nums_bytesOf (s : ByteArray) : strOfNums (bytesOf s) = s := bytesOf_inj (bytesOf_nums _ (bytesOf_byte s))
theorem bytesOf_append (s t : ByteArray) : bytesOf (s ++ t) = bytesOf s ++ bytesOf t := by
  unfold bytesOf
  rw [ByteArray.data_append, Array.toList_append, List.map_append]
theorem nums_append (xs ys : List Int) : strOfNums (xs ++ ys) = strOfNums xs ++ strOfNums ys := by
  have : ∀ a b : ByteArray, a.data = b.data → a = b := fun a b h => by cases a; cases b; simp_all
  apply this
  rw [ByteArray.data_append]
  unfold strOfNums
  simp
theorem bytesOf_extract (s : ByteArray) (a b : Nat) : bytesOf (s.extract a b) = ((bytesOf s).take b).drop a := by
  unfold bytesOf
  rw [Lib.extract_data, List.drop_take, List.map_take, List.map_drop]
theorem bytesOf_empty : bytesOf ByteArray.empty = [] := by
  unfold bytesOf
  rfl
theorem size_bytesOf (s : ByteArray) : (bytesOf s).length = s.size := bytesOf_length s
theorem bt_nat (s : ByteArray) (i : Nat) (h : i < s.size) : bt s (i : Int) = (bytesOf s)[i]'(by rw [bytesOf_length]; exact h) := by
  rw [← rd_bytesOf]
  unfold rd
  simp [List.getD_eq_getElem?_getD, List.getElem?_eq_getElem (show i < (bytesOf s).length by rw [bytesOf_length]; exact h)]
theorem drop_cons (l : List Int) (i : Nat) (h : i < l.length) : l.drop i = rd l (i : Int) :: l.drop (i + 1) := by
  unfold rd
  rw [List.drop_eq_getElem_cons h]
  simp [List.getD_eq_getElem?_getD, List.getElem?_eq_getElem h]

end Go.Proofs.Ytcgmoeiknkdljaa.Num
