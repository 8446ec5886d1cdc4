/- Laws of this session's own: two variables in memory that hold rows of the call's own (ledger.Net's closure). -/
import Derived.Test.YtikanbdhpafbiaaMy
import Derived.Test.YtikanbdhpafbiaaInr
import Derived.Test.YtikanbdhpafbiaaWMore
import Derived.Test.YtikanbdhpafbiaaWLast
import Derived.Test.YtikanbdhpafbiaaWTab
import Derived.KernelRfl
import Derived.Test.YtikanbdhpafbiaaProg
namespace Go.Proofs.Ytikanbdhpafbiaa.My
set_option linter.unusedVariables false
open Go.RowKit Go.Proofs.YtikanbdhpafbiaaW.PrintWords Go.Proofs.YtikanbdhpafbiaaW.PrintLast
abbrev RI (W : World) (base : Nat) (v : Value) (xs : List Int) : Prop := Kd.R (Kd.int .i64) 2 W base (fun _ => True) v xs
/-- What lies in memory around gather. -/
structure NS (w0 W : World) (n0 bf bk : Nat) (cf ck vf vk : Value) (fs ks : List Int) : Prop where
  hf : W.heap[bf]? = some (.cells #[cf] 87 (0, 0))
  hk : W.heap[bk]? = some (.cells #[ck] 87 (0, 0))
  rf : RI W n0 vf fs
  rk : RI W n0 vk ks
  ne : NeRow vf vk
  n0l : n0 ≤ w0.heap.size
  bl : Below n0 w0 W
  kp : ∀ (g : Nat) (cs : Array Value) (t : TypeId), w0.heap[g]? = some (.cells cs t (0, 0)) → t ≠ 87 → t ≠ 2 → W.heap[g]? = some (.cells cs t (0, 0))
section
variable {w0 W W1 : World} {n0 bf bk : Nat} {cf ck vf vk v1 : Value} {fs ks xs : List Int}
theorem RI_ne {g : Nat} {cs : Array Value} {t : TypeId} {v : Value} (h : RI W n0 v xs) (hb : W.heap[g]? = some (.cells cs t (0, 0))) (ht : t ≠ 2) : some g ≠ v.ownBlock := fun e => by
  obtain ⟨inner, ho⟩ := Kd.R_own h
  obtain ⟨cells, hc⟩ := own_typed ho g e.symm
  rw [hc] at hb
  injection hb with hb
  injection hb with _ h2
  exact ht h2.symm
theorem NS.mv (h : NS w0 W n0 bf bk cf ck vf vk fs ks) (hb : Below W.heap.size W W1) : NS w0 W1 n0 bf bk cf ck vf vk fs ks :=
  ⟨blk_below h.hf hb, blk_below h.hk hb, Kd.R_below h.rf hb, Kd.R_below h.rk hb, h.ne, h.n0l, below_then h.bl (Nat.le_trans h.n0l h.bl.size) hb, fun g cs t e h1 h2 => blk_below (h.kp g cs t e h1 h2) hb⟩
theorem NS.appF (h : NS w0 W n0 bf bk cf ck vf vk fs ks) (hR : RI W1 n0 v1 xs) (hg : W.grownBy W1 vf.ownBlock) (hat : v1.ownBlock = vf.ownBlock ∨ ∃ b, v1.ownBlock = some b ∧ W.heap.size ≤ b) : NS w0 W1 n0 bf bk cf ck v1 vk xs ks := by
  obtain ⟨inner, ho⟩ := Kd.R_own h.rk
  exact ⟨blk_grown h.hf hg (RI_ne h.rf h.hf (by decide)), blk_grown h.hk hg (RI_ne h.rf h.hk (by decide)), hR, Kd.R_grown2 h.rk rfl hg (fun k hk e => h.ne k hk e.symm), ne_append h.ne hat ho, h.n0l, h.bl.grown hg (Nat.le_trans h.n0l h.bl.size) (R_base h.rf), fun g cs t e h1 h2 => blk_grown (h.kp g cs t e h1 h2) hg (RI_ne h.rf (h.kp g cs t e h1 h2) h2)⟩
theorem NS.appK (h : NS w0 W n0 bf bk cf ck vf vk fs ks) (hR : RI W1 n0 v1 xs) (hg : W.grownBy W1 vk.ownBlock) (hat : v1.ownBlock = vk.ownBlock ∨ ∃ b, v1.ownBlock = some b ∧ W.heap.size ≤ b) : NS w0 W1 n0 bf bk cf ck vf v1 fs xs := by
  obtain ⟨inner, ho⟩ := Kd.R_own h.rf
  exact ⟨blk_grown h.hf hg (RI_ne h.rk h.hf (by decide)), blk_grown h.hk hg (RI_ne h.rk h.hk (by decide)), Kd.R_grown2 h.rf rfl hg (fun k hk e => ne_symm h.ne k hk e.symm), hR, ne_symm (ne_append (ne_symm h.ne) hat ho), h.n0l, h.bl.grown hg (Nat.le_trans h.n0l h.bl.size) (R_base h.rk), fun g cs t e h1 h2 => blk_grown (h.kp g cs t e h1 h2) hg (RI_ne h.rk (h.kp g cs t e h1 h2) h2)⟩
theorem RI_far {g : Nat} {cs : Array Value} {t : TypeId} {v : Value} (h : RI W n0 v xs) (hb : W.heap[g]? = some (.cells cs t (0, 0))) (ht : t ≠ 2) (u : Value) : RI (W.setCell ⟨g, 0, none⟩ u) n0 v xs :=
  Kd.R_mono (Kd.R_far (p := ⟨g, 0, none⟩) (Kd.R_far1 h rfl (RI_ne h hb ht)) (fun _ hk => hk.2) u) (fun _ _ => trivial)
theorem NS.setF (h : NS w0 W n0 bf bk cf ck vf vk fs ks) (hfk : bf ≠ bk) (h0f : n0 ≤ bf) (h0k : n0 ≤ bk) (u : Value) : NS w0 (W.setCell ⟨bf, 0, none⟩ u) n0 bf bk u ck vf vk fs ks :=
  ⟨blk_put h.hf 0 u rfl, by rw [Below.heap_setCell _ _ _ _ (Ne.symm hfk)]; exact h.hk, RI_far h.rf h.hf (by decide) u, RI_far h.rk h.hf (by decide) u, h.ne, h.n0l, h.bl.setCell (p := ⟨bf, 0, none⟩) h0f u, fun g cs t e h1 h2 => by
    rw [Below.heap_setCell _ _ _ _ (fun e2 => by subst e2; have h3 := h.kp g cs t e h1 h2; rw [h.hf] at h3; injection h3 with h3; injection h3 with _ h4; exact h1 h4.symm)]
    exact h.kp g cs t e h1 h2⟩
theorem NS.setK (h : NS w0 W n0 bf bk cf ck vf vk fs ks) (hfk : bf ≠ bk) (h0f : n0 ≤ bf) (h0k : n0 ≤ bk) (u : Value) : NS w0 (W.setCell ⟨bk, 0, none⟩ u) n0 bf bk cf u vf vk fs ks :=
  ⟨by rw [Below.heap_setCell _ _ _ _ hfk]; exact h.hf, blk_put h.hk 0 u rfl, RI_far h.rf h.hk (by decide) u, RI_far h.rk h.hk (by decide) u, h.ne, h.n0l, h.bl.setCell (p := ⟨bk, 0, none⟩) h0k u, fun g cs t e h1 h2 => by
    rw [Below.heap_setCell _ _ _ _ (fun e2 => by subst e2; have h3 := h.kp g cs t e h1 h2; rw [h.hk] at h3; injection h3 with h3; injection h3 with _ h4; exact h1 h4.symm)]
    exact h.kp g cs t e h1 h2⟩
end
theorem app_step {ops : Array Oper} {o : Oper} {a : Act} {W : World} {Kc : Act → World → Prop} {Q : Exit → Act → World → Prop} (hw : Region.wanted o (yielded ops a.tmps) = true) (s x : Operand)
    (ho : o.op = .call { callee := .builtin .append, args := #[s, x], argTypes := #[87, 87] }) (v : Value) (xs : List Int) (tb : Nat) (n : Int) (hs : a.eval s = v) (hx : a.eval x = .slice (some ⟨tb, 0, none⟩) 1 1)
    {n0 : Nat} (HO : RI W n0 v xs) (htb : W.heap[tb]? = some (.cells #[.int .i64 n] 2 (0, 0))) (hbase : n0 ≤ W.heap.size) (hl : xs.length ≤ 1000000)
    (h : ∀ v1 w1, RI w1 n0 v1 (xs ++ [n]) → W.grownBy w1 v.ownBlock → (v1.ownBlock = v.ownBlock ∨ ∃ b, v1.ownBlock = some b ∧ W.heap.size ≤ b) → Kc (a.put o.dst v1) w1) :
    if Region.wanted o (yielded ops a.tmps) = true then Oper.wp Try.prog o a W Kc Q else Kc (a.put o.dst undef) W := by
  refine Kd.R_append_rows_step (Kd.int .i64) (Rr := fun (x : Int) cs => cs = [Value.int .i64 x]) (w0 := W) n0 hw s x 87 2 (.int .i64 0) 8 ho Try.underlying87 (by kernel_rfl) rfl (by decide) (by decide) v xs [n] (some ⟨tb, 0, none⟩) 1 1 (fun _ => True) (fun k => some k ≠ v.ownBlock) hs hx HO ?_ (fun x cs h => h) (fun k hk => ⟨trivial, hk⟩) (fun _ _ => trivial) (Below.refl _ _) hbase (by omega) (fun v1 w1 h1 h2 h3 h4 => h v1 w1 h1 h3 h4)
  refine ⟨rfl, by decide, fun _ => ⟨_, rfl, fun j p hj => ?_⟩⟩
  cases j with
  | succ j => simp at hj
  | zero =>
    simp at hj
    subst hj
    refine ⟨[.int .i64 n], rfl, rfl, fun i u hi => ?_⟩
    cases i with
    | succ i => simp at hi
    | zero =>
      simp at hi
      subst hi
      exact (blk_cell htb 0).trans rfl
end Go.Proofs.Ytikanbdhpafbiaa.My
