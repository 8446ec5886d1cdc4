/- A log on a disk, and the document's, walked by hand; Lean checks it. -/
import Derived.Maps.OwnSet
import Derived.Shelf.SlIterI.Nil
import Derived.Shelf.SortM.Plain
import Derived.Shelf.SortM.SortNone
import Derived.StillTailTactics
import Derived.Deep.QuietTactic
import Derived.BigQuiet
import Derived.WalkSpells
import Derived.Handy
import Derived.Deep.RegionLaw
import Derived.WalkMore
import Derived.Test.YtkcpgaplpmbmoaaGreatShelf
import Derived.Test.YtkcpgaplpmbmoaaGreatPAx0
import Derived.Test.YtkcpgaplpmbmoaaGreatSh
import Derived.Test.YtkcpgaplpmbmoaaGreatSl
import Derived.Test.YtkcpgaplpmbmoaaGreatPa
import Derived.Test.YtkcpgaplpmbmoaaGreatInr
namespace Go.Proofs.YtkcpgaplpmbmoaaGreat.PA
open Go.RowKit Go.Proofs.YtkcpgaplpmbmoaaGreatW.PrintWords Go.Proofs.YtkcpgaplpmbmoaaGreatW.PrintLast Go.Proofs.YtkcpgaplpmbmoaaGreatW.PrintMore
attribute [local go_sem] max2_int min2_int max_two min_two max_three min_three max_four min_four
set_option linter.unusedVariables false
set_option linter.unusedSimpArgs false

/-! #### a disk's map: which files it holds -/
theorem at_world {P : Program} {body : Code} {Q : Exit → Act → World → Prop} {a : Act} {w : World} (J : World → Prop) (h : J w) (k : ∀ W, J W → Code.wp P body Q a W) : Code.wp P body Q a w := k w h
def encD (x : S24) : DataW Unit := .agg [.lit (.int .i64 x.f0), .lit (.string x.f1.data.toList), .lit (.int .i64 x.f2)]
def entD (x : S24) : Lit × DataW Unit := (.int .i64 x.f0, encD x)
def valD (x : S24) : Value := .agg #[.int .i64 x.f0, .string x.f1, .int .i64 x.f2]
def RdF (v : Value) : Option (DataW Unit × List MemPlace) := match v with
  | .agg ⟨[.int .i64 a, .string s, .int .i64 b]⟩ => some (encD ⟨a, s, b⟩, [])
  | _ => none
theorem RdF_mk (x : S24) : RdF (valD x) = some (encD x, []) := rfl
theorem encD_inj {x y : S24} (h : encD x = encD y) : x = y := by
  obtain ⟨a, ⟨⟨s⟩⟩, b⟩ := x
  obtain ⟨a', ⟨⟨s'⟩⟩, b'⟩ := y
  simp [encD] at h
  obtain ⟨rfl, rfl, rfl⟩ := h
  rfl
theorem RdF_inv {v : Value} {x : S24} {ps : List MemPlace} (h : RdF v = some (encD x, ps)) : v = valD x := by
  unfold RdF at h
  split at h
  · simp only [Option.some.injEq, Prod.mk.injEq] at h
    rw [← encD_inj h.1]
    rfl
  · cases h
def getL (L : List S24) (n : Int) : S24 := match L.find? (fun x => decide (x.f0 = n)) with | some x => x | none => z24
def hasL (L : List S24) (n : Int) : Bool := L.any (fun x => decide (x.f0 = n))
def insL (x : S24) : List S24 → List S24
  | [] => [x]
  | y :: r => if x.f0 < y.f0 then x :: y :: r else y :: insL x r
def delL (L : List S24) (n : Int) : List S24 := L.filter (fun x => !decide (x.f0 = n))
def putL (L : List S24) (x : S24) : List S24 := insL x (delL L x.f0)
theorem insL_map (x : S24) : ∀ L : List S24, DataW.insert (entD x) (L.map entD) = (insL x L).map entD
  | [] => rfl
  | y :: r => by
    simp only [List.map_cons, DataW.insert, insL]
    have e : (entD x).1.before (entD y).1 = decide (x.f0 < y.f0) := rfl
    rw [e]
    by_cases c : x.f0 < y.f0
    · simp [c]
    · simp [c, insL_map x r]
theorem sk (x : S24) (n : Int) : (entD x).1.sameKey (.int .i64 n) = decide (x.f0 = n) := by simp [entD, Lit.sameKey]
theorem filt_map (L : List S24) (n : Int) : (L.map entD).filter (fun p => !p.1.sameKey (.int .i64 n)) = (delL L n).map entD := by
  unfold delL
  rw [List.filter_map]
  congr 1
  apply List.filter_congr
  intro x _
  simp only [Function.comp, sk]
theorem put_map (L : List S24) (x : S24) : (DataW.map (L.map entD)).put (.int .i64 x.f0) (encD x) = .map ((putL L x).map entD) := by
  simp only [DataW.put]
  rw [filt_map]
  exact congrArg _ (insL_map x _)
theorem del_map (L : List S24) (n : Int) : (DataW.map (L.map entD)).del (.int .i64 n) = .map ((delL L n).map entD) := by
  simp only [DataW.del]
  rw [filt_map]
theorem at_map (n : Int) : ∀ L : List S24, (DataW.map (L.map entD)).atKey (.int .i64 n) (encD z24) = encD (getL L n)
  | [] => rfl
  | x :: r => by
    have ih := at_map n r
    simp only [DataW.atKey, getL, List.map_cons, List.find?_cons, sk] at ih ⊢
    by_cases c : x.f0 = n
    · simp [c, entD]
    · simp only [c, decide_false]
      exact ih
theorem has_map (n : Int) (L : List S24) : Go.Maps.has (DataW.map (L.map entD)) (.int .i64 n) = hasL L n := by
  simp only [Go.Maps.has, hasL, List.any_map]
  congr 1
  funext x
  exact sk x n
/-- Block b is a map that holds these files. -/
def MapAt (W : World) (b : Nat) (L : List S24) : Prop := W.ownsMap Tryz.prog 3 RdF b L.length (.map (L.map entD))
theorem law3 : Go.Maps.Keyed Tryz.prog 3 := Go.Maps.int_keyed Tryz.underlying3
theorem zero24 (w : World) : (zeroValue 24).run Tryz.prog w = .ok (valD z24) w := by kernel_rfl
theorem MapAt.tight {W : World} {b n : Nat} {L : List S24} (h : W.ownsMap Tryz.prog 3 RdF b n (.map (L.map entD))) : MapAt W b L := by
  obtain ⟨es, clock, hb, F, hs, hD⟩ := h
  refine ⟨es, clock, hb, F, ?_, hD⟩
  have := congrArg Go.Maps.size hD
  simp [Go.Maps.size, length_sorted] at this
  omega
theorem MapAt.made (W : World) : MapAt (W.alloc (.map #[] 0)) W.heap.size [] := World.ownsMap_made W _ _ _
theorem MapAt.look {W : World} {b : Nat} {L : List S24} (h : MapAt W b L) (n : Int) (hn : (Lit.int .i64 n).wf = true) : (Instr.lookup 50 (.map (some b)) (.int .i64 n) false).run Tryz.prog W = .ok (valD (getL L n)) W := by
  obtain ⟨v, ps, hr, hv⟩ := h.lookup law3 Tryz.underlying50 (zero24 W) (RdF_mk z24) (Go.Maps.keyOf_int_mk Tryz.underlying3 hn)
  rw [at_map] at hv
  rw [RdF_inv hv] at hr
  exact hr
theorem MapAt.look2 {W : World} {b : Nat} {L : List S24} (h : MapAt W b L) (n : Int) (hn : (Lit.int .i64 n).wf = true) : (Instr.lookup 50 (.map (some b)) (.int .i64 n) true).run Tryz.prog W = .ok (.tuple #[valD (getL L n), .bool (hasL L n)]) W := by
  obtain ⟨v, ps, hr, hv⟩ := h.look_ok law3 Tryz.underlying50 (zero24 W) (RdF_mk z24) (Go.Maps.keyOf_int_mk Tryz.underlying3 hn)
  rw [at_map] at hv
  rw [RdF_inv hv, has_map] at hr
  exact hr
theorem MapAt.put {W : World} {b : Nat} {L : List S24} (h : MapAt W b L) (x : S24) (hl : L.length < 1000) (hn : (Lit.int .i64 x.f0).wf = true) : ∃ W', (Instr.mapUpdate 50 (.map (some b)) (.int .i64 x.f0) (valD x)).run Tryz.prog W = .ok () W' ∧ MapAt W' b (putL L x) ∧ W.grownBy W' (some b) := by
  obtain ⟨W', hr, hm, hg⟩ := h.update law3 Tryz.underlying50 (by unfold maxLen; omega) (Go.Maps.keyOf_int_mk Tryz.underlying3 hn) (RdF_mk x)
  rw [put_map] at hm
  exact ⟨W', hr, MapAt.tight hm, hg⟩
theorem MapAt.del {W : World} {b : Nat} {L : List S24} (h : MapAt W b L) (n : Int) (hn : (Lit.int .i64 n).wf = true) (ty : TypeId) : ∃ W', (Builtin.delete_ #[50, 3] ty #[.map (some b), .int .i64 n]).run Tryz.prog W = .ok (.tuple #[]) W' ∧ MapAt W' b (delL L n) ∧ W.grownBy W' (some b) := by
  obtain ⟨W', hr, hm, hg⟩ := h.drop law3 Tryz.underlying50 (Go.Maps.keyOf_int_mk Tryz.underlying3 hn) ty
  rw [del_map] at hm
  exact ⟨W', hr, MapAt.tight hm, hg.grown⟩
theorem MapAt.ln {W : World} {b : Nat} {L : List S24} (h : MapAt W b L) (ty : TypeId) : (Builtin.len_ #[50] ty #[.map (some b)]).run Tryz.prog W = .ok (.int .i64 (L.length : Int)) W := by
  have := World.ownsMap.len h Tryz.underlying50 ty
  simpa [Go.Maps.size] using this
theorem MapAt.blk {W : World} {b : Nat} {L : List S24} (h : MapAt W b L) : ∃ es clock, W.heap[b]? = some (.map es clock) := by
  obtain ⟨es, clock, hb, _⟩ := h
  exact ⟨es, clock, hb⟩
theorem MapAt.move {W W' : World} {b : Nat} {L : List S24} (h : MapAt W b L) (hm : W'.heap[b]? = W.heap[b]?) : MapAt W' b L := by
  obtain ⟨es, clock, hb, r⟩ := h
  exact ⟨es, clock, hm.trans hb, r⟩
/-! #### a disk -/
structure DS where
  dead : Bool
  room : Int
  armed : Int
  keep : List Int
  L : List S24
def useL (L : List S24) : Int := (L.map fun x => (x.f1.size : Int)).sum
structure Inv (s : DS) : Prop where
  srt : s.L.Pairwise (fun x y => x.f0 < y.f0)
  num : ∀ x ∈ s.L, 0 ≤ x.f0 ∧ x.f0 ≤ 1000000
  dat : ∀ x ∈ s.L, 0 ≤ x.f2 ∧ x.f2 ≤ (x.f1.size : Int) ∧ 0 < x.f1.size
  use : useL s.L ≤ s.room
  room : s.room ≤ 200000
  len : s.L.length ≤ 8
  arm : 0 ≤ s.armed ∧ s.armed ≤ 9223372036854775807
/-- In block p lies a disk; its map is in block bm. -/
structure DiskAt (base : Nat) (W : World) (p bm : Nat) (s : DS) : Prop where
  inv : Inv s
  blk : ∃ kv, W.heap[p]? = some (.cells #[.bool true, .bool s.dead, .int .i64 s.room, .int .i64 s.armed, kv, .map (some bm)] 52 (0, 0)) ∧ (Kd.int .i64).R 3 W base (fun _ => True) kv s.keep
  map : MapAt W bm s.L
  hp : base ≤ p
  hm : base ≤ bm
/-- What a call of a disk turns: its own two blocks alone. -/
structure Fr (p bm : Nat) (W W' : World) : Prop where
  os : W'.os = W.os
  tape : W'.tape = W.tape
  output : W'.output = W.output
  size : W.heap.size ≤ W'.heap.size
  block : ∀ k, k < W.heap.size → k ≠ p → k ≠ bm → W'.heap[k]? = W.heap[k]?
theorem Fr.refl (p bm : Nat) (W : World) : Fr p bm W W := ⟨rfl, rfl, rfl, Nat.le_refl _, fun _ _ _ _ => rfl⟩
theorem Fr.trans {p bm : Nat} {a b c : World} (h : Fr p bm a b) (k : Fr p bm b c) : Fr p bm a c :=
  ⟨k.os.trans h.os, k.tape.trans h.tape, k.output.trans h.output, Nat.le_trans h.size k.size, fun i hi h1 h2 => (k.block i (Nat.lt_of_lt_of_le hi h.size) h1 h2).trans (h.block i hi h1 h2)⟩
theorem Fr.of {p bm : Nat} {W W' : World} (h : Below W.heap.size W W') : Fr p bm W W' := ⟨h.os, h.tape, h.output, h.size, fun k hk _ _ => h.block k hk⟩
theorem Fr.below {p bm base : Nat} {W W' : World} (h : Fr p bm W W') (hp : base ≤ p) (hm : base ≤ bm) (hb : base ≤ W.heap.size) : Below base W W' :=
  ⟨h.os, h.tape, h.output, h.size, fun k hk => h.block k (by omega) (by omega) (by omega)⟩
theorem Fr.add {p bm base : Nat} {W0 W W' : World} (hb : Below base W0 W) (h : Fr p bm W W') (hp : base ≤ p) (hm : base ≤ bm) (hle : base ≤ W.heap.size) : Below base W0 W' := hb.trans (h.below hp hm hle)
theorem Fr.setCell {p bm : Nat} {W0 W : World} (h : Fr p bm W0 W) (i : Nat) (u : Value) : Fr p bm W0 (W.setCell ⟨p, i, none⟩ u) :=
  h.trans ⟨rfl, rfl, rfl, by simp, fun k hk h1 _ => Below.heap_setCell W ⟨p, i, none⟩ u k h1⟩
theorem Fr.grown {p bm : Nat} {W0 W W' : World} (h : Fr p bm W0 W) (hg : W.grownBy W' (some bm)) : Fr p bm W0 W' :=
  h.trans ⟨hg.os, hg.tape, hg.output, hg.size, fun k hk _ h2 => hg.block k hk (by simpa using h2)⟩
/-- A new block of the call's own is written. -/
theorem Fr.fresh {p bm q i : Nat} {W0 W : World} (h : Fr p bm W0 W) (hq : W0.heap.size ≤ q) (u : Value) : Fr p bm W0 (W.setCell ⟨q, i, none⟩ u) :=
  ⟨h.os, h.tape, h.output, by simpa using h.size, fun k hk h1 h2 => (Below.heap_setCell W ⟨q, i, none⟩ u k (by show k ≠ q; omega)).trans (h.block k hk h1 h2)⟩
section
variable {base p bm : Nat} {W W' : World} {s : DS}
theorem DiskAt.move (h : DiskAt base W p bm s) (hle : ∀ k, k < W.heap.size → base ≤ k → W'.heap[k]? = W.heap[k]?) : DiskAt base W' p bm s := by
  obtain ⟨kv, hb, hk⟩ := h.blk
  obtain ⟨es, clock, hm⟩ := h.map.blk
  exact ⟨h.inv, ⟨kv, (hle p (blk_lt hb) h.hp).trans hb, Kd.R_mono (Kd.R_step (Kd.R_bound hk) (fun k ho hk => hle k hk ho.2.1)) (fun _ _ => trivial)⟩, h.map.move (hle bm (blk_lt hm) h.hm), h.hp, h.hm⟩
theorem DiskAt.up (h : DiskAt base W p bm s) (hb : Below W.heap.size W W') : DiskAt base W' p bm s := h.move fun k hk _ => hb.block k hk
theorem DiskAt.lt (h : DiskAt base W p bm s) : p < W.heap.size := by
  obtain ⟨kv, hb, _⟩ := h.blk
  exact blk_lt hb
theorem DiskAt.ltm (h : DiskAt base W p bm s) : bm < W.heap.size := by
  obtain ⟨es, clock, hm⟩ := h.map.blk
  exact blk_lt hm
theorem DiskAt.ne (h : DiskAt base W p bm s) : p ≠ bm := by
  obtain ⟨kv, hb, _⟩ := h.blk
  obtain ⟨es, clock, hm⟩ := h.map.blk
  rintro rfl
  rw [hb] at hm
  cases hm
/-- A row of the caller's stays what it is. -/
theorem DiskAt.row {α : Type} {d : Kd α} {e b0 : Nat} {ok : Nat → Prop} {v : Value} {xs : List α} (h : DiskAt base W p bm s) (hf : Fr p bm W W') (hr : d.R e W b0 ok v xs) (ht : ∀ q, q ∈ e :: d.E → q ≠ 52) : d.R e W' b0 ok v xs := by
  obtain ⟨kv, hb, _⟩ := h.blk
  obtain ⟨es, clock, hm⟩ := h.map.blk
  refine Kd.R_mono (Kd.R_step (Kd.R_bound hr) (fun k ho hk => ?_)) (fun _ ho => ho.1)
  obtain ⟨_, _, _, q, hq, cells, hc⟩ := ho
  refine hf.block k hk ?_ ?_
  · rintro rfl
    rw [hc] at hb
    injection hb with hb
    injection hb with _ hb
    exact ht q hq hb
  · rintro rfl
    rw [hc] at hm
    cases hm
end
theorem wfn {x : Int} (h0 : 0 ≤ x) (h1 : x ≤ 9223372036854775807) : (Lit.int .i64 x).wf = true := by
  have e0 : IntKind.i64.min = -9223372036854775808 := by decide
  have e1 : IntKind.i64.max = 9223372036854775807 := by decide
  simp only [Lit.wf, e0, e1, Bool.and_eq_true, decide_eq_true_eq]
  omega
/-! #### the disk's small calls -/
section
variable {base p bm : Nat} {w : World} {s : DS}
theorem DiskAt.cells (h : DiskAt base w p bm s) : ∃ kv, w.heap[p]? = some (.cells #[.bool true, .bool s.dead, .int .i64 s.room, .int .i64 s.armed, kv, .map (some bm)] 52 (0, 0)) ∧ (Kd.int .i64).R 3 w base (fun _ => True) kv s.keep ∧
    w.cell? ⟨p, 0, none⟩ = some (.bool true) ∧ w.cell? ⟨p, 1, none⟩ = some (.bool s.dead) ∧ w.cell? ⟨p, 2, none⟩ = some (.int .i64 s.room) ∧ w.cell? ⟨p, 3, none⟩ = some (.int .i64 s.armed) ∧ w.cell? ⟨p, 4, none⟩ = some kv ∧ w.cell? ⟨p, 5, none⟩ = some (.map (some bm)) ∧ ∀ i, w.frozen? ⟨p, i, none⟩ = false := by
  obtain ⟨kv, hb, hk⟩ := h.blk
  exact ⟨kv, hb, hk, blk_cell hb 0, blk_cell hb 1, blk_cell hb 2, blk_cell hb 3, blk_cell hb 4, blk_cell hb 5, fun i => blk_frozen hb i⟩
theorem disk_Disk_none.calls (h : DiskAt base w p bm s) : Calls Tryz.prog 54 #[.pointer (some ⟨p, 0, none⟩)] w fun e w' => e = .returned (.bool false) ∧ Below w.heap.size w w' := by
  obtain ⟨kv, hb, hk, c0, c1, c2, c3, c4, c5, fz⟩ := h.cells
  clear hk
  go_enter Tryz.func54, Tryz.ntmps54
  go_wp2
  repeat (go_quiet (fail); try go_wp2)
  go_ret
  exact ⟨rfl, Below.refl _ _⟩
theorem disk_Disk_ready.dead (h : DiskAt base w p bm s) (hd : s.dead = true) : Calls Tryz.prog 60 #[.pointer (some ⟨p, 0, none⟩)] w fun e w' => e = .returned (.int .i64 150) ∧ Below w.heap.size w w' := by
  obtain ⟨kv, hb, hk, c0, c1, c2, c3, c4, c5, fz⟩ := h.cells
  have HD := Aside0.mk h
  have HBl := Aside0.mk hb
  rw [hd] at c1
  clear hk h c0 c2 c3 c4 c5 fz hb hd
  go_enter Tryz.func60, Tryz.ntmps60
  go_wp2_with ((with_reducible refine gate_callee (f := 54) rfl ?_); refine goesL_ (some _) rfl rfl Tryz.func54 (by kernel_rfl) rfl #[.pointer (some ⟨p, 0, none⟩)] rfl My.gx ?_; (refine (disk_Disk_none.calls HD.out).mono ?_); rintro e w' ⟨rfl, hb⟩; refine ⟨_, rfl, ?_⟩; replace c1 := (hb.cell (World.block_lt_of_cell? w _ c1)).trans c1)
  go_ret
  exact ⟨rfl, hb⟩
theorem disk_Disk_ready.live (h : DiskAt base w p bm s) (hd : s.dead = false) : Calls Tryz.prog 60 #[.pointer (some ⟨p, 0, none⟩)] w fun e w' => e = .returned (.int .i64 0) ∧ Below w.heap.size w w' := by
  obtain ⟨kv, hb, hk, c0, c1, c2, c3, c4, c5, fz⟩ := h.cells
  have HD := Aside0.mk h
  have HBl := Aside0.mk hb
  rw [hd] at c1
  clear hk h c0 c2 c3 c4 c5 fz hb hd
  go_enter Tryz.func60, Tryz.ntmps60
  go_wp2_with ((with_reducible refine gate_callee (f := 54) rfl ?_); refine goesL_ (some _) rfl rfl Tryz.func54 (by kernel_rfl) rfl #[.pointer (some ⟨p, 0, none⟩)] rfl My.gx ?_; (refine (disk_Disk_none.calls HD.out).mono ?_); rintro e w' ⟨rfl, hb⟩; refine ⟨_, rfl, ?_⟩; replace c1 := (hb.cell (World.block_lt_of_cell? w _ c1)).trans c1)
  go_ret
  exact ⟨rfl, hb⟩
/-- One field of the disk is written. -/
theorem DiskAt.put1 {W : World} (h : DiskAt base W p bm s) (d : Bool) (hi : Inv { s with dead := d }) : DiskAt base (W.setCell ⟨p, 1, none⟩ (.bool d)) p bm { s with dead := d } := by
  obtain ⟨kv, hb, hk⟩ := h.blk
  exact ⟨hi, ⟨kv, blk_put hb 1 (.bool d) rfl, Kd.R_set hk hb (by decide) 1 _⟩, h.map.move (Below.heap_setCell W ⟨p, 1, none⟩ _ bm h.ne.symm), h.hp, h.hm⟩
theorem DiskAt.put3 {W : World} (h : DiskAt base W p bm s) (n : Int) (hi : Inv { s with armed := n }) : DiskAt base (W.setCell ⟨p, 3, none⟩ (.int .i64 n)) p bm { s with armed := n } := by
  obtain ⟨kv, hb, hk⟩ := h.blk
  exact ⟨hi, ⟨kv, blk_put hb 3 (.int .i64 n) rfl, Kd.R_set hk hb (by decide) 3 _⟩, h.map.move (Below.heap_setCell W ⟨p, 3, none⟩ _ bm h.ne.symm), h.hp, h.hm⟩
theorem DiskAt.put4 {W : World} (h : DiskAt base W p bm s) (v : Value) (ks : List Int) (hv : (Kd.int .i64).R 3 W base (fun _ => True) v ks) (hi : Inv { s with keep := ks }) : DiskAt base (W.setCell ⟨p, 4, none⟩ v) p bm { s with keep := ks } := by
  obtain ⟨kv, hb, hk⟩ := h.blk
  exact ⟨hi, ⟨v, blk_put hb 4 v rfl, Kd.R_set hv hb (by decide) 4 _⟩, h.map.move (Below.heap_setCell W ⟨p, 4, none⟩ _ bm h.ne.symm), h.hp, h.hm⟩
def boot (s : DS) : DS := { s with dead := false }
theorem boot_inv (h : Inv s) : Inv (boot s) := ⟨h.srt, h.num, h.dat, h.use, h.room, h.len, h.arm⟩
/-! a step -/
def lastS (s : DS) : Bool := decide (s.armed = 1)
def stepS (s : DS) : DS := if s.armed = 0 then s else { s with armed := s.armed - 1 }
theorem stepS_inv (h : Inv s) : Inv (stepS s) := by
  unfold stepS
  split
  · exact h
  · exact ⟨h.srt, h.num, h.dat, h.use, h.room, h.len, ⟨by have := h.arm; show 0 ≤ s.armed - 1; omega, by have := h.arm; show s.armed - 1 ≤ 9223372036854775807; omega⟩⟩
theorem disk_Disk_step.calls (h : DiskAt base w p bm s) : Calls Tryz.prog 66 #[.pointer (some ⟨p, 0, none⟩)] w fun e w' => e = .returned (.bool (lastS s)) ∧ DiskAt base w' p bm (stepS s) ∧ Fr p bm w w' := by
  obtain ⟨kv, hb, hk, c0, c1, c2, c3, c4, c5, fz⟩ := h.cells
  have HD := Aside0.mk h
  have HBl := Aside0.mk hb
  have ha := Aside0.mk h.inv.arm
  clear hk h c0 c1 c2 c4 c5
  by_cases c : s.armed = 0
  · have e1 : lastS s = false := by simp [lastS, c]
    have e2 : stepS s = s := by simp [stepS, c]
    rw [e1, e2]
    rw [c] at c3
    clear e1 e2 c hb
    go_enter Tryz.func66, Tryz.ntmps66
    go_wp2
    repeat (go_quiet (fail); try go_wp2)
    go_ret
    exact ⟨rfl, HD.out, Fr.refl _ _ _⟩
  · have e2 : stepS s = { s with armed := s.armed - 1 } := by simp [stepS, c]
    have hw : wrap64 (s.armed - 1) = s.armed - 1 := (by have := ha.out; unfold wrap64; omega)
    have e1 : decide (s.armed - 1 = 0) = lastS s := by unfold lastS; congr 1; apply propext; omega
    have e3 : (s.armed - 1 == 0) = lastS s := by rw [← e1]; rfl
    have q3 : decide (s.armed = 0) = false := decide_eq_false c
    have q4 : (s.armed == 0) = false := by simpa using c
    have hi := Aside0.mk (stepS_inv HD.out.inv)
    rw [e2] at hi ⊢
    clear e2 c
    have Hhw := hw
    have HD2 := Aside0.mk (HD.out.put3 (s.armed - 1) hi.out)
    obtain ⟨kv', hb', hk', c0', c1', c2', c3', c4', c5', fz'⟩ := HD2.out.cells
    simp only [] at c3'
    clear hb' hk' c0' c1' c2' c4' c5'
    go_enter Tryz.func66, Tryz.ntmps66
    go_wp2
    repeat (go_quiet (fail); try go_wp2)
    go_ret
    exact ⟨by first | rfl | (rw [← e1]; simp) | simp [lastS], HD2.out, (Fr.refl _ _ _).setCell 3 _⟩
end
/-! #### the files' numbers, sorted -/
open Go.Maps Go.Sort Go.Shelf in
theorem sortsA (m : Nat) : AnyZI.SortsIn Tryz.prog Tryz.sortedA_ren Fence.wide m :=
  ⟨fun blk off cap ss W hH hblk hsz => callsIn_wide.2 (AnyM.slices_Sort_int Tryz.sortA blk off cap ss W hH hblk hsz),
   fun p cap W => callsIn_wide.2 (AnyM.slices_Sort_int_none Tryz.sortA p cap W)⟩
def numsL (L : List S24) : List Int := L.map fun x => x.f0
theorem keys_map (L : List S24) : intKeys (DataW.map (L.map entD)) = numsL L := by
  show (L.map entD).map (fun p => Go.intOf p.1) = _
  rw [List.map_map]
  rfl
theorem sorted_numsL {L : List S24} (h : L.Pairwise (fun x y => x.f0 < y.f0)) {ss : List Int} (hp : ss.Perm (numsL L)) : ss.mergeSort (fun x y => decide (x ≤ y)) = numsL L := by
  have hs : (numsL L).Pairwise (fun x y => x ≤ y) := by
    unfold numsL
    rw [List.pairwise_map]
    exact h.imp (fun h => Int.le_of_lt h)
  have p1 : (ss.mergeSort (fun x y => decide (x ≤ y))).Perm (numsL L) := (List.mergeSort_perm _ _).trans hp
  have s1 : (ss.mergeSort (fun x y => decide (x ≤ y))).Pairwise (fun x y => x ≤ y) := by
    have := List.pairwise_mergeSort (le := fun (x y : Int) => decide (x ≤ y)) (by intro a b c; simp; omega) (by intro a b; simp; omega) ss
    exact this.imp (fun h => by simpa using h)
  exact p1.eq_of_pairwise (fun a b _ _ h1 h2 => by omega) s1 hs
section
variable {base p bm : Nat} {w : World} {s : DS}
set_option maxHeartbeats 4000000 in
open Go.Maps Go.Sort Go.Shelf in
theorem disk_Disk_Files.calls (h : DiskAt base w p bm s) : Calls Tryz.prog 28 #[.pointer (some ⟨p, 0, none⟩)] w fun e w' => ∃ v, e = .returned v ∧ (Kd.int .i64).R 3 w' w.heap.size (fun _ => True) v (numsL s.L) ∧ Below w.heap.size w w' := by
  refine (callsIn_wide (n := 6)).1 ?_
  obtain ⟨kv, hb, hk, c0, c1, c2, c3, c4, c5, fz⟩ := h.cells
  have HD := Aside0.mk h
  clear hk c0 c1 c2 c3 c4 fz hb h
  have cN : CallsIn Fence.wide 5 Tryz.prog 54 #[.pointer (some ⟨p, 0, none⟩)] w fun e w' => e = .returned (.bool false) ∧ Below w.heap.size w w' := callsIn_wide.2 (disk_Disk_none.calls HD.out)
  have hfN : Fence.wide.fn 54 := trivial
  have hfK : Fence.wide.fn 56 := trivial
  have hfS : Fence.wide.fn 55 := trivial
  have cK : ∀ mb W, CallsIn Fence.wide 5 Tryz.prog 56 #[.map mb] W fun e w' => e = .returned (.func (.func 76) #[] #[.pointer (some ⟨W.heap.size, 0, none⟩)]) ∧ w' = W.alloc (.cells #[.map mb] 50) := fun mb W => AnyZI.keys_in Tryz.keysA Fence.wide 5 trivial rfl mb W
  have cS : ∀ W : World, DiskAt base W p bm s → CallsIn Fence.wide 5 Tryz.prog 55 #[.func (.func 76) #[] #[.pointer (some ⟨W.heap.size, 0, none⟩)]] (W.alloc (.cells #[.map (some bm)] 50)) fun e w' => ∃ v, e = .returned v ∧ (Kd.int .i64).R 3 w' W.heap.size (fun _ => True) v (numsL s.L) ∧ Below W.heap.size W w' := by
    intro W hW
    have hown := hW.map
    have hbl := hown.lt
    have hsz : Maps.size (DataW.map (s.L.map entD)) ≤ 8 := by simpa [Maps.size] using hW.inv.len
    have hseq : SeqGives Fence.wide 2 Tryz.prog 76 #[.pointer (some ⟨W.heap.size, 0, none⟩)] encZ (fun ss => ss.Perm (intKeys (DataW.map (s.L.map entD)))) (Maps.size (DataW.map (s.L.map entD))) (W.alloc (.cells #[.map (some bm)] 50)) :=
      AnyZI.keys_gives (ρ := Tryz.keysA_ren) { Tryz.keysA with } Fence.wide _ trivial rfl (by omega) W.heap.size bm s.L.length _ _ (by simp) (by simp) (by
        obtain ⟨es, clock, hb, Ft, hs, hD⟩ := hown
        exact ⟨es, clock, (Below.heap_alloc _ _ bm hbl).trans hb, Ft, hs, hD⟩)
    have cS0 := AnyZI.sorted_in Tryz.sortedA Fence.wide 5 trivial trivial trivial trivial rfl (by omega) (sortsA _) (enters_of Tryz.func75 (by kernel_rfl) rfl) 76 #[.pointer (some ⟨W.heap.size, 0, none⟩)] trivial (enters_of Tryz.func76 (by kernel_rfl) rfl) _ _ (by unfold maxLen; omega) (by omega) _ hseq
    change CallsIn _ _ Tryz.prog 55 _ _ _ at cS0
    refine cS0.mono ?_
    rintro e w' ⟨v, ss, rfl, hS, hrow, hnil, hb⟩
    rw [keys_map] at hS
    rw [sorted_numsL hW.inv.srt hS, hS.length_eq] at hrow
    have hrow2 : w'.ownsRow W.heap.size 3 1 v (numsL s.L).length ((numsL s.L).map encZ) := ownsRow_base_a hrow (by simp)
    exact ⟨v, rfl, ⟨fun _ _ => trivial, _, hrow2, My.enc_reps (fun x => .int .i64 x) (numsL s.L)⟩, ((Below.refl _ W).alloc (Nat.le_refl _) _).trans (hb.mono (by simp))⟩
  refine callsIn_of_wp Tryz.func28 rfl trivial ?_ rfl
  simp only [Tryz.ntmps28, List.size_toArray, List.length_cons, List.length_nil, Nat.reduceAdd, Nat.reduceSub, Array.replicate_succ, Array.replicate_zero, List.push_toArray, List.append_toArray, List.nil_append, List.cons_append]
  gi_wp2_with (first
    | (gi_at_call 54; refine cN.mono ?_; rintro e w1 ⟨rfl, hb1⟩; replace c5 := (hb1.cell (World.block_lt_of_cell? w _ c5)).trans c5)
    | (gi_at_call 56; refine (cK _ _).mono ?_; rintro e w' ⟨rfl, rfl⟩)
    | (gi_at_call 55; refine (cS _ (HD.out.up hb1)).mono ?_; rintro e w' ⟨v, rfl, hR, hb⟩))
  go_ret
  exact ⟨v, rfl, Kd.R_lower hR hb1.size, hb1.trans (hb.mono hb1.size)⟩
end
/-! #### the disk's image -/
theorem info24 : (Tryz.prog.info? 24).map (fun i => (i.zero, i.size, i.bytes)) = some (some (.agg #[(.int .i64 0), (.string ⟨#[]⟩), (.int .i64 0)]), k24.sz, 32) := by kernel_rfl
theorem at_I {w : World} {A : Option Addr} {n : Nat} {xs : List Int} (h : (Kd.int .i64).C w A n xs) (i : Int) (h0 : 0 ≤ i) (h1 : i < n) : ∃ ad, A = some ad ∧ w.cell? (ad.add i.toNat) = some (.int .i64 (rd xs i)) := by
  obtain ⟨ad, c, e, _, hK, hc0⟩ := Kd.C_get h (0 : Int) i h0 h1
  have hc : ∀ j u, c[j]? = some u → w.cell? (ad.add (i.toNat * 1 + j)) = some u := hc0
  obtain rfl : c = [.int .i64 (rd xs i)] := hK
  exact ⟨ad, e, by have hq := hc 0 _ rfl; rwa [Nat.mul_one, Nat.add_zero] at hq⟩
theorem drop40 (l : List S24) (i : Nat) (h : i < l.length) : l.drop i = rd_T24 l (i : Int) :: l.drop (i + 1) := by
  rw [List.drop_eq_getElem_cons h]
  congr 1
  unfold rd_T24
  rw [Int.toNat_natCast, List.getD_eq_getElem?_getD, List.getElem?_eq_getElem h]
  rfl
theorem take40 (l : List S24) (i : Nat) (h : i < l.length) : l.take (i + 1) = l.take i ++ [rd_T24 l (i : Int)] := by
  rw [List.take_add_one]
  congr 1
  unfold rd_T24
  rw [Int.toNat_natCast, List.getD_eq_getElem?_getD, List.getElem?_eq_getElem h]
  rfl
theorem mem40 (l : List S24) (i : Nat) (h : i < l.length) : rd_T24 l (i : Int) ∈ l := by
  have := List.mem_of_mem_drop (show rd_T24 l (i : Int) ∈ l.drop i by rw [drop40 l i h]; exact List.mem_cons_self)
  exact this
theorem rd_nums (l : List S24) (i : Nat) (h : i < l.length) : rd (numsL l) (i : Int) = (rd_T24 l (i : Int)).f0 := by
  unfold rd rd_T24 numsL
  rw [Int.toNat_natCast, List.getD_eq_getElem?_getD, List.getD_eq_getElem?_getD, List.getElem?_map, List.getElem?_eq_getElem h]
  rfl
theorem getL_mem {L : List S24} (h : L.Pairwise (fun x y => x.f0 < y.f0)) {x : S24} (hx : x ∈ L) : getL L x.f0 = x := by
  induction L with
  | nil => simp at hx
  | cons y r ih =>
    obtain ⟨h1, h2⟩ := List.pairwise_cons.1 h
    unfold getL
    rw [List.find?_cons]
    rcases List.mem_cons.1 hx with rfl | hx
    · simp
    · have := h1 x hx
      have e : decide (y.f0 = x.f0) = false := decide_eq_false (by omega)
      rw [e]
      exact ih h2 hx
theorem numsL_len (L : List S24) : (numsL L).length = L.length := by simp [numsL]
section
variable {base p bm : Nat} {w : World} {s : DS}
set_option maxHeartbeats 4000000 in
set_option maxRecDepth 100000 in
theorem disk_Disk_Image.calls (h : DiskAt base w p bm s) : Calls Tryz.prog 11 #[.pointer (some ⟨p, 0, none⟩)] w fun e w' => ∃ v, e = .returned v ∧ k24.R 24 w' w.heap.size (fun _ => True) v s.L ∧ Below w.heap.size w w' := by
  have hu40 := Tryz.underlying24
  have HD := Aside0.mk h
  clear h
  go_enter Tryz.func11, Tryz.ntmps11
  go_wp2_with ((with_reducible refine gate_callee (f := 28) rfl ?_); refine goesL_ (some _) rfl rfl Tryz.func28 (by kernel_rfl) rfl #[.pointer (some ⟨p, 0, none⟩)] rfl My.gx ?_; (refine (disk_Disk_Files.calls HD.out).mono ?_); rintro e W1 ⟨v, rfl, hR, hb⟩; refine ⟨_, rfl, ?_⟩; obtain ⟨A, c, rfl, hlc, hC⟩ := Kd.R_reads hR; rw [numsL_len] at hC hlc ⊢; have HC := Aside0.mk hC; have HB0 := Aside0.mk hb; replace HD := Aside0.mk (HD.out.up hb); clear hR hC hlc hb)
  go_loopg [3, 9] (s.L.length + 1) (fun kq v3 v9 w' => ∃ (i : Nat) (x : Int), v9 = .int .i64 x ∧ Aside0 (x = (i : Int)) ∧ Aside0 (kq + i = s.L.length + 1) ∧ Aside0 (i ≤ s.L.length) ∧ Aside0 (k24.R 24 w' W1.heap.size (fun _ => True) v3 (s.L.take i)) ∧ Aside0 (Below W1.heap.size W1 w'))
  case atStart => exact ⟨0, _, rfl, ⟨rfl⟩, ⟨rfl⟩, ⟨Nat.zero_le _⟩, ⟨Kd.R_nil _ _ _ _ _⟩, ⟨Below.refl _ _⟩⟩
  case round =>
    obtain ⟨i, x, rfl, hx, hk, hi, HO, HB⟩ := hrel
    by_cases c9 : i < s.L.length
    · have q1 : x < (s.L.length : Int) := by have := hx.out; omega
      have p1 : (0 : Int) ≤ x := by have := hx.out; omega
      have c3 : decide (x < (s.L.length : Int)) = true := decide_eq_true q1
      have hD := HD.out.up HB.out
      obtain ⟨kv, hb, hk5, k0, k1, k2, k3, k4, k5, fz⟩ := hD.cells
      clear hb hk5 k0 k1 k2 k3 k4 fz
      obtain ⟨ad, e1, x0⟩ := at_I (Kd.C_below HC.out HB.out) x p1 q1
      cases e1
      have hi1 := hi.out
      have hx1 := hx.out
      have hmem := mem40 s.L i c9
      have hr := rd_nums s.L i c9
      have ht := take40 s.L i c9
      rw [← hx1] at hmem hr ht
      rw [hr] at x0
      have hnum := hD.inv.num _ hmem
      have hlook := hD.map.look (rd_T24 s.L x).f0 (wfn hnum.1 (by omega))
      rw [getL_mem hD.inv.srt hmem] at hlook
      unfold valD at hlook
      have hw : IntKind.i64.wrap (x + 1) = x + 1 := by have := hD.inv.len; rw [IntKind.wrap_i64]; omega
      have HT := Aside0.mk ht
      have HL8 := Aside0.mk hD.inv.len
      have HI := Aside0.mk c9
      have HDW := Aside0.mk hD
      clear hD hmem hr ht hnum hi1 hx1 c9
      have p2 := eq_true p1
      have q2 := eq_true q1
      go_wp2_with (first | (at_builtin; refine Kd.R_append k24 (w0 := W1) W1.heap.size rfl _ _ 22 24 (.agg #[(.int .i64 0), (.string ⟨#[]⟩), (.int .i64 0)]) 32 rfl Tryz.underlying22 info24 rfl (by decide) (by decide) u3 (s.L.take i) (rd_T24 s.L x) [.int .i64 (rd_T24 s.L x).f0, .string (rd_T24 s.L x).f1, .int .i64 (rd_T24 s.L x).f2] (fun _ => True) (fun _ => False) rfl rfl (k24_mkM _ _ _ _) (fun _ hk => hk.elim) (fun _ _ => trivial) HO.out HB.out HB.out.size (by rw [List.length_take]; have := HL8.out; omega) ?_; intro v1 w1 hr1 hb1 hg1 hat1; rw [← HT.out] at hr1))
      have hI := HI.out
      have hx1 := hx.out
      have hk1 := hk.out
      go_roundg (s.L.length - i)
      case measure => omega
      case rel => exact ⟨i + 1, x + 1, by first | rfl | (rw [hw]), ⟨by omega⟩, ⟨by omega⟩, ⟨by omega⟩, ⟨hr1⟩, ⟨hb1⟩⟩
    · have hi2 := hi.out
      have hx1 := hx.out
      have c3 : decide (x < (s.L.length : Int)) = false := decide_eq_false (by omega)
      have e : s.L.take i = s.L := List.take_of_length_le (by omega)
      have h1 := HO.out
      rw [e] at h1
      have HE := Aside0.mk h1
      clear h1 hi2 hx1 c9 HO e
      go_wp2
      go_ret
      exact ⟨_, rfl, Kd.R_lower HE.out HB0.out.size, HB0.out.trans (HB.out.mono HB0.out.size)⟩
end
/-! #### how many bytes -/
theorem useL_take (L : List S24) (i : Nat) (h : i < L.length) : useL (L.take (i + 1)) = useL (L.take i) + ((rd_T24 L (i : Int)).f1.size : Int) := by
  rw [take40 L i h]
  simp [useL]
theorem useL_nonneg (L : List S24) : 0 ≤ useL L := by
  unfold useL
  induction L with
  | nil => simp
  | cons x r ih =>
    rw [List.map_cons, List.sum_cons]
    omega
theorem useL_app (A B : List S24) : useL (A ++ B) = useL A + useL B := by simp [useL]
theorem useL_take_le (L : List S24) (i : Nat) : useL (L.take i) ≤ useL L := by
  have h := useL_app (L.take i) (L.drop i)
  rw [List.take_append_drop] at h
  have := useL_nonneg (L.drop i)
  omega
theorem useL_mem {L : List S24} {x : S24} (h : x ∈ L) : (x.f1.size : Int) ≤ useL L := by
  induction L with
  | nil => simp at h
  | cons y r ih =>
    have e : useL (y :: r) = (y.f1.size : Int) + useL r := by simp [useL]
    rcases List.mem_cons.1 h with rfl | h
    · have := useL_nonneg r; omega
    · have := ih h; omega
section
variable {base p bm : Nat} {w : World} {s : DS}
set_option maxHeartbeats 4000000 in
set_option maxRecDepth 100000 in
theorem disk_Disk_Used.calls (h : DiskAt base w p bm s) : Calls Tryz.prog 78 #[.pointer (some ⟨p, 0, none⟩)] w fun e w' => e = .returned (.int .i64 (useL s.L)) ∧ Below w.heap.size w w' := by
  have hu40 := Tryz.underlying24
  have HD := Aside0.mk h
  have HU := Aside0.mk h.inv.use
  have HRo := Aside0.mk h.inv.room
  have HL8 := Aside0.mk h.inv.len
  clear h
  go_enter Tryz.func78, Tryz.ntmps78
  go_wp2_with ((with_reducible refine gate_callee (f := 11) rfl ?_); refine goesL_ (some _) rfl rfl Tryz.func11 (by kernel_rfl) rfl #[.pointer (some ⟨p, 0, none⟩)] rfl My.gx ?_; (refine (disk_Disk_Image.calls HD.out).mono ?_); rintro e W1 ⟨v, rfl, hR, hb⟩; refine ⟨_, rfl, ?_⟩; obtain ⟨A, c, rfl, hlc, hC⟩ := Kd.R_reads hR; have HC := Aside0.mk hC; have HB0 := Aside0.mk hb; clear hR hC hlc hb)
  go_loopg [3, 9] (s.L.length + 1) (fun kq v3 v9 w' => ∃ (i : Nat) (x n : Int), v3 = .int .i64 n ∧ v9 = .int .i64 x ∧ Aside0 (x = (i : Int)) ∧ Aside0 (n = useL (s.L.take i)) ∧ Aside0 (kq + i = s.L.length + 1) ∧ Aside0 (i ≤ s.L.length) ∧ Aside0 (Below W1.heap.size W1 w'))
  case atStart => exact ⟨0, _, _, rfl, rfl, ⟨rfl⟩, ⟨rfl⟩, ⟨rfl⟩, ⟨Nat.zero_le _⟩, ⟨Below.refl _ _⟩⟩
  case round =>
    obtain ⟨i, x, n, rfl, rfl, hx, hn, hk, hi, HB⟩ := hrel
    by_cases c9 : i < s.L.length
    · have q1 : x < (s.L.length : Int) := by have := hx.out; omega
      have p1 : (0 : Int) ≤ x := by have := hx.out; omega
      have c3 : decide (x < (s.L.length : Int)) = true := decide_eq_true q1
      obtain ⟨ad, e1, x0, x1, x2⟩ := at_T24 (Kd.C_below HC.out HB.out) x p1 q1
      cases e1
      have hx1 := hx.out
      have hut := useL_take s.L i c9
      have hle := useL_take_le s.L (i + 1)
      have h0 := useL_nonneg (s.L.take i)
      rw [← hx1, ← hn.out] at hut
      rw [← hn.out] at h0
      have hw : IntKind.i64.wrap (x + 1) = x + 1 := by have := HL8.out; rw [IntKind.wrap_i64]; omega
      have hw2 : wrap64 (n + ((rd_T24 s.L x).f1.size : Int)) = n + ((rd_T24 s.L x).f1.size : Int) := by have := HU.out; have := HRo.out; unfold wrap64; omega
      have HUT := Aside0.mk hut
      have HI := Aside0.mk c9
      clear hut hle h0 hx1 c9
      have p2 := eq_true p1
      have q2 := eq_true q1
      go_wp2
      repeat (go_quiet (fail); try go_wp2)
      have hI := HI.out
      have hx1 := hx.out
      have hk1 := hk.out
      go_roundg (s.L.length - i)
      case measure => omega
      case rel => exact ⟨i + 1, x + 1, n + ((rd_T24 s.L x).f1.size : Int), by first | rfl | (rw [hw2]), by first | rfl | (rw [hw]), ⟨by omega⟩, ⟨HUT.out.symm⟩, ⟨by omega⟩, ⟨by omega⟩, ⟨by repeat (first | (with_reducible first | exact HB.out | apply below_alloc | apply pw_below_drewN | apply below_drew1) | (refine below_set ?_ (by have := HB.out.size; simp; omega)) | exact HB.out)⟩⟩
    · have hi2 := hi.out
      have hx1 := hx.out
      have c3 : decide (x < (s.L.length : Int)) = false := decide_eq_false (by omega)
      have e : s.L.take i = s.L := List.take_of_length_le (by omega)
      have h1 := hn.out
      rw [e] at h1
      have HE := Aside0.mk h1
      clear h1 hi2 hx1 c9 e
      go_wp2
      go_ret
      exact ⟨show Ending.returned (.int .i64 n) = _ from by rw [← HE.out], HB0.out.trans (HB.out.mono HB0.out.size)⟩
end
/-! #### one file is found and read -/
theorem find_results {fn : Func} (h : fn.results = #[.cell 4 24, .tmp 5]) (tmps : Array Value) {a : Nat} (x : S24) (e : Int) (h4 : tmps.getD 4 undef = .pointer (some ⟨a, 0, none⟩)) (h5 : tmps.getD 5 undef = .int .i64 e) {W : World}
    (ha : W.heap[a]? = some (.cells #[.int .i64 x.f0, .string x.f1, .int .i64 x.f2] 24 (0, 0))) : (results fn tmps).run Tryz.prog W = .ok (.tuple #[valD x, .int .i64 e]) W := by
  have h4' : tmps[4]?.getD undef = .pointer (some ⟨a, 0, none⟩) := by simpa using h4
  have h5' : tmps[5]?.getD undef = .int .i64 e := by simpa using h5
  have hr := run_loadVar_row (P := Tryz.prog) W a 24 24 #[.int .i64 x.f0, .string x.f1, .int .i64 x.f2] (0, 0) _ ha Tryz.underlying24 rfl (by kernel_rfl)
  simp [results, h, h4', h5', asAddr, hr, valD]
section
variable {base p bm : Nat} {w : World} {s : DS}
def findE (s : DS) (n : Int) : Int := if s.dead = true then 150 else if hasL s.L n = true then 0 else 152
def findF (s : DS) (n : Int) : S24 := if s.dead = true then z24 else if hasL s.L n = true then getL s.L n else z24
set_option maxHeartbeats 4000000 in
set_option maxRecDepth 100000 in
theorem disk_Disk_find.calls (h : DiskAt base w p bm s) (n : Int) (hn : (Lit.int .i64 n).wf = true) : Calls Tryz.prog 35 #[.pointer (some ⟨p, 0, none⟩), .int .i64 n] w fun e w' => e = .returned (.tuple #[valD (findF s n), .int .i64 (findE s n)]) ∧ Below w.heap.size w w' := by
  have hu40 := Tryz.underlying24
  have HD := Aside0.mk h
  have HN := Aside0.mk hn
  have HB := My.am (Below.refl w.heap.size w)
  clear h hn
  by_cases hd : s.dead = true
  · have e1 : findE s n = 150 := by simp [findE, hd]
    have e2 : findF s n = z24 := by simp [findF, hd]
    rw [e1, e2]
    have HE := Aside0.mk hd
    clear hd e1 e2
    go_enter Tryz.func35, Tryz.ntmps35
    go_wp2_with (first
      | ((with_reducible refine gate_dst (N := 4) rfl ?_); refine My.bx 4 #[.int .i64 0, .string ⟨#[]⟩, .int .i64 0] 24 ?_; intro g4 hg4 w4 hbox hb; have BX := My.am hbox; have G4 := My.nge hg4 HB.out; replace HB := My.st HB hb; clear hb hbox hg4)
      | ((with_reducible refine gate_callee (f := 60) rfl ?_); refine goesL_ (some _) rfl rfl Tryz.func60 (by kernel_rfl) rfl #[.pointer (some ⟨p, 0, none⟩)] rfl My.gx ?_; (refine (disk_Disk_ready.dead (HD.out.up HB.out) HE.out).mono ?_); rintro e W1 ⟨rfl, hb⟩; refine ⟨_, rfl, ?_⟩; replace BX := My.ab BX hb; replace HB := My.st HB hb; clear hb; have hz := My.cz3 BX))
    have X := My.put3 (v0 := .int .i64 0) (v1 := .string ⟨#[]⟩) (v2 := .int .i64 0) BX.out
    refine bodyPost_ret (find_results rfl _ z24 150 rfl rfl X) rfl ?_
    exact ⟨rfl, My.bl_ HB⟩
  · replace hd : s.dead = false := by simpa using hd
    have HE := Aside0.mk hd
    cases hh : hasL s.L n with
    | true =>
      have e1 : findE s n = 0 := by simp [findE, hd, hh]
      have e2 : findF s n = getL s.L n := by simp [findF, hd, hh]
      rw [e1, e2]
      clear hd e1 e2
      have HH := Aside0.mk hh
      clear hh
      go_enter Tryz.func35, Tryz.ntmps35
      go_upto_region 7 with (first
        | ((with_reducible refine gate_dst (N := 4) rfl ?_); refine My.bx 4 #[.int .i64 0, .string ⟨#[]⟩, .int .i64 0] 24 ?_; intro g4 hg4 w4 hbox hb; have BX := My.am hbox; have G4 := My.nge hg4 HB.out; replace HB := My.st HB hb; clear hb hbox hg4)
        | ((with_reducible refine gate_dst (N := 7) rfl ?_); refine My.bx 7 #[.int .i64 0, .string ⟨#[]⟩, .int .i64 0] 24 ?_; intro g7 hg7 w7 hbox hb; have BY := My.am hbox; have N47 := My.nlt hg7 BX.out; have G7 := My.nge hg7 HB.out; replace BX := My.ab BX hb; replace HB := My.st HB hb; clear hb hbox hg7 hz; have hz := My.cz3 BX; have hz7 := My.cz3 BY)
        | ((with_reducible refine gate_callee (f := 60) rfl ?_); refine goesL_ (some _) rfl rfl Tryz.func60 (by kernel_rfl) rfl #[.pointer (some ⟨p, 0, none⟩)] rfl My.gx ?_; (refine (disk_Disk_ready.live (HD.out.up HB.out) HE.out).mono ?_); rintro e W1 ⟨rfl, hb⟩; refine ⟨_, rfl, ?_⟩; replace BX := My.ab BX hb; replace HB := My.st HB hb; clear hb; have hz := My.cz3 BX; (have hDW := HD.out.up HB.out); (have hlook := hDW.map.look2 n HN.out); rw [HH.out] at hlook; unfold valD at hlook; (obtain ⟨kv, hb, hk5, k0, k1, k2, k3, k4, k5, fz⟩ := hDW.cells); clear hb hk5 k0 k1 k2 k3 k4 fz hDW))
      have Y7 := My.am (My.put3 (v0 := .int .i64 (getL s.L n).f0) (v1 := .string (getL s.L n).f1) (v2 := .int .i64 (getL s.L n).f2) BY.out)
      have X7 := My.am (My.farA (My.farA (My.farA BX.out N47 (j := 0) (u := .int .i64 (getL s.L n).f0)) N47 (j := 1) (u := .string (getL s.L n).f1)) N47 (j := 2) (u := .int .i64 (getL s.L n).f2))
      have HB7 := My.am (below_set (below_set (below_set HB.out G7.out (j := 0) (v := .int .i64 (getL s.L n).f0)) G7.out (j := 1) (v := .string (getL s.L n).f1)) G7.out (j := 2) (v := .int .i64 (getL s.L n).f2))
      clear hz hz7 hlook k5 BX BY HB
      have y7 := My.cz3 Y7
      have x7 := My.cz3 X7
      go_wp2
      have X := My.put3 (v0 := .int .i64 (getL s.L n).f0) (v1 := .string (getL s.L n).f1) (v2 := .int .i64 (getL s.L n).f2) X7.out
      refine bodyPost_ret (find_results rfl _ (getL s.L n) 0 rfl rfl X) rfl ?_
      exact ⟨rfl, below_set (below_set (below_set HB7.out G4.out) G4.out) G4.out⟩
    | false =>
      have e1 : findE s n = 152 := by simp [findE, hd, hh]
      have e2 : findF s n = z24 := by simp [findF, hd, hh]
      have e3 : getL s.L n = z24 := by
        unfold getL
        have : s.L.find? (fun x => decide (x.f0 = n)) = none := by
          rw [List.find?_eq_none]
          intro x hx
          unfold hasL at hh
          rw [List.any_eq_false] at hh
          exact hh x hx
        rw [this]
      rw [e1, e2]
      clear hd e1 e2
      have HH := Aside0.mk hh
      have HZ := Aside0.mk e3
      clear hh e3
      go_enter Tryz.func35, Tryz.ntmps35
      go_upto_region 6 with (first
        | ((with_reducible refine gate_dst (N := 4) rfl ?_); refine My.bx 4 #[.int .i64 0, .string ⟨#[]⟩, .int .i64 0] 24 ?_; intro g4 hg4 w4 hbox hb; have BX := My.am hbox; have G4 := My.nge hg4 HB.out; replace HB := My.st HB hb; clear hb hbox hg4)
        | ((with_reducible refine gate_dst (N := 7) rfl ?_); refine My.bx 7 #[.int .i64 0, .string ⟨#[]⟩, .int .i64 0] 24 ?_; intro g7 hg7 w7 hbox hb; have BY := My.am hbox; have N47 := My.nlt hg7 BX.out; have G7 := My.nge hg7 HB.out; replace BX := My.ab BX hb; replace HB := My.st HB hb; clear hb hbox hg7 hz; have hz := My.cz3 BX; have hz7 := My.cz3 BY)
        | ((with_reducible refine gate_callee (f := 60) rfl ?_); refine goesL_ (some _) rfl rfl Tryz.func60 (by kernel_rfl) rfl #[.pointer (some ⟨p, 0, none⟩)] rfl My.gx ?_; (refine (disk_Disk_ready.live (HD.out.up HB.out) HE.out).mono ?_); rintro e W1 ⟨rfl, hb⟩; refine ⟨_, rfl, ?_⟩; replace BX := My.ab BX hb; replace HB := My.st HB hb; clear hb; have hz := My.cz3 BX; (have hDW := HD.out.up HB.out); (have hlook := hDW.map.look2 n HN.out); rw [HH.out, HZ.out] at hlook; unfold valD at hlook; (obtain ⟨kv, hb, hk5, k0, k1, k2, k3, k4, k5, fz⟩ := hDW.cells); clear hb hk5 k0 k1 k2 k3 k4 fz hDW))
      have Y7 := My.am (My.put3 (v0 := .int .i64 0) (v1 := .string ⟨#[]⟩) (v2 := .int .i64 0) BY.out)
      have X7 := My.am (My.farA (My.farA (My.farA BX.out N47 (j := 0) (u := .int .i64 z24.f0)) N47 (j := 1) (u := .string z24.f1)) N47 (j := 2) (u := .int .i64 z24.f2))
      have HB7 := My.am (below_set (below_set (below_set HB.out G7.out (j := 0) (v := .int .i64 z24.f0)) G7.out (j := 1) (v := .string z24.f1)) G7.out (j := 2) (v := .int .i64 z24.f2))
      clear hz hz7 hlook k5 BX BY HB
      have x7 := My.cz3 X7
      go_wp2
      have X := My.put3 (v0 := .int .i64 0) (v1 := .string ⟨#[]⟩) (v2 := .int .i64 0) X7.out
      refine bodyPost_ret (find_results rfl _ z24 152 rfl rfl X) rfl ?_
      exact ⟨rfl, below_set (below_set (below_set HB7.out G4.out) G4.out) G4.out⟩
end

end Go.Proofs.YtkcpgaplpmbmoaaGreat.PA
