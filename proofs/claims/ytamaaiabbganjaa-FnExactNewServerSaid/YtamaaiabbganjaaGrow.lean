/-
  slices.Grow of a nil slice of bytes: room for more, and nothing in it yet.
  Conditions: none.
-/
import Derived.Test.YtamaaiabbganjaaBase
import Derived.Lib.Walk
import Derived.Lib.SliceRun
import Derived.Lib.AppendZerosOnto
set_option linter.unusedVariables false
set_option linter.unusedSimpArgs false
open Go Go.AM Go.Proofs Go.RowKit Go.Lib
namespace Go.Proofs.Ytamaaiabbganjaa
/-- a new row, with room and nothing in it -/
def GrownRow (w : World) (e : Ending) (w' : World) : Prop := ∃ (cap : Nat) (cells : Array Value) (t : TypeId), e = .returned (.slice (some ⟨w.heap.size, 0, none⟩) 0 cap) ∧ w' = w.drew.alloc (.cells cells t) ∧ cap ≤ cells.size
set_option maxHeartbeats 4000000 in
set_option maxRecDepth 100000 in
theorem grow_walk0 (a : Option Addr) (w : World) :
    Calls Try.prog 57 #[.slice a 0 0, .int .i64 0] w fun e w' => e = .returned (.slice a 0 0) ∧ w' = w := by
  go_enter Try.func57, Try.ntmps57
  go_wp2
  all_goals (go_ret; exact ⟨rfl, rfl⟩)
set_option maxHeartbeats 4000000 in
set_option maxRecDepth 100000 in
theorem grow_walk (a : Option Addr) (n : Nat) (w : World) (h0 : 0 < n) (hn : n ≤ 1000000000) :
    Calls Try.prog 57 #[.slice a 0 0, .int .i64 n] w (GrownRow w) := by
  have h1 : ¬ ((n : Int) < 0) := by omega
  have h2 : wrap64 ((0 : Nat) : Int) = 0 := by unfold wrap64; omega
  have h3 : wrap64 ((n : Int) - 0) = (n : Int) := by unfold wrap64; omega
  have h4 : (n : Int) > 0 := by omega
  obtain ⟨i0, hi0, hs0, hb0, hz0⟩ : ∃ i0, Try.prog.info? 5 = some i0 ∧ i0.size = 1 ∧ i0.bytes = 1 ∧ i0.zero = some (.int .u8 0) := by
    cases h : Try.prog.info? 5 with
    | none => have : (Try.prog.info? 5).isSome = true := by kernel_rfl
              rw [h] at this; cases this
    | some i =>
      refine ⟨i, rfl, ?_, ?_, ?_⟩
      · have : (Try.prog.info? 5).map (·.size) = some 1 := by kernel_rfl
        rw [h] at this; simpa using this
      · have : (Try.prog.info? 5).map (·.bytes) = some 1 := by kernel_rfl
        rw [h] at this; simpa using this
      · have : (Try.prog.info? 5).map (·.zero) = some (some (.int .u8 0)) := by kernel_rfl
        rw [h] at this; simpa using this
  have hold : (Builtin.firstCells i0.size 0 (.slice a 0 0)).run Try.prog w.drew = .ok ([] : List Value).toArray w.drew := by
    cases a with
    | none => exact run_firstCells_none w.drew i0.size 0 0 0
    | some a => exact run_firstCells_some w.drew i0.size 0 a 0 0 [] (by simp) (fun j v hj => by simp at hj)
  have hrz : ∀ ty, (Builtin.append_ #[25, 3] ty #[.slice a 0 0, .int .i64 (n : Int)]).run Try.prog w =
      .ok (.slice (some ⟨w.heap.size, 0, none⟩) n (grownCap w n 0 5)) (w.drew.alloc (.cells (([] : List Value).toArray ++ Builtin.zeroCells (Value.int .u8 0).cells n ++ Builtin.zeroCells (Value.int .u8 0).cells (grownCap w n 0 5 - n)) 5)) := fun ty => by
    have h := Lib.run_append_grow_zeros w 25 3 ty 5 i0 (.int .u8 0) .i64 .i64 Try.underlying25 Try.underlying3 hi0 hz0 a 0 0 [] hold n h0 (by omega) (by omega) (by omega) (by rw [hb0]; omega)
      (by rw [hb0]; exact growslice_fits (by omega) (by omega))
    simpa using h
  have hG : n ≤ grownCap w n 0 5 := grownCap_ge w _ _ _
  have hG63 : grownCap w n 0 5 ≤ 9223372036854775807 := by
    have := grownCap_le_maxLen w n 0 5 (by unfold maxLen; omega)
    unfold maxLen at this
    omega
  generalize hcap : grownCap w n 0 5 = cap at hrz hG hG63
  clear hold hcap
  go_enter Try.func57, Try.ntmps57
  cases a with
  | none =>
    go_wp2_with (at_builtin; refine Lib.wpList_append_run _ rfl _ _ _ _ rfl _ _ rfl rfl _ _ (hrz _) ?_)
    all_goals (go_ret; exact ⟨cap, _, _, rfl, rfl, by simp [Builtin.zeroCells, Value.cells]; omega⟩)
  | some a =>
    obtain ⟨ab, ao, asp⟩ := a
    go_wp2_with (at_builtin; refine Lib.wpList_append_run _ rfl _ _ _ _ rfl _ _ rfl rfl _ _ (hrz _) ?_)
    all_goals (go_ret; exact ⟨cap, _, _, rfl, rfl, by simp [Builtin.zeroCells, Value.cells]; omega⟩)
theorem grow_calls (n : Nat) (hn : n ≤ 1000000000) (H : Heap) : ACalls Try.prog 57 [.c (.full []), .c (.d (.int .i64 n))] H (fun r H' => r = .c (.own (.e H.length) 0 []) ∧ H' = H ++ [.grow 0 1]) := by
  refine ⟨⟨_, Try.func57, by kernel_rfl, by decide⟩, fun w ι cargs hsim hl ha => ?_⟩
  match cargs, hl with
  | [v0, v1], _ =>
    have r0 := (ha 0 _ v0 rfl rfl).c_inv
    have r1 := (ha 1 _ v1 rfl rfl).int_inv
    obtain ⟨rfl, _⟩ := r1
    cases r0 with
    | @full _ a len h =>
      have hlen : len = 0 := by
        rcases RD.sl_iff.1 h with ⟨_, h, _⟩ | ⟨_, _, _, _, h, _⟩
        · exact h
        · simpa using h
      subst hlen
      by_cases h0 : 0 < n
      · refine (grow_walk a n w h0 hn).mono fun e w' ⟨cap, cells, t, he, hw, hc⟩ => ?_
        subst hw
        have hx0 : Ext w ι (w.drew.alloc (.cells cells t)) ι := (Ext.drewN w ι _).trans (Ext.alloc _ ι _)
        have hb : ∀ b, b < w.heap.size → (w.drew.alloc (.cells cells t)).heap[b]? = w.heap[b]? := fun b hb => heap_alloc_lt w.drew _ hb
        let k : AM.K := .grow 0 (some (w.heap.size, 0, cap, 1))
        have hk : ∀ b, k.at b → w.heap.size ≤ b ∧ b < (w.drew.alloc (.cells cells t)).heap.size := fun b hb => by
          have : b = w.heap.size := hb
          subst this
          have : (w.drew.alloc (.cells cells t)).heap.size = w.heap.size + 1 := by simp
          omega
        refine ⟨_, H ++ [.grow 0 1], ι ++ [k], _, he, ⟨rfl, rfl⟩, ?_, ?_, hx0.push (fun b hb => (hk b hb).1), by simp⟩
        · have := hsim.push (n := H.length) (k := k) (o := .grow 0 1) hx0 hb hk ⟨⟨rfl, rfl⟩, cells, t, heap_alloc_new w.drew _, hc⟩
          exact Sim.out (st := ⟨[], H, [.grow 0 1]⟩) this (sim_fits hsim) _
        · refine .c (.own (RD.sl_iff.2 (.inr ⟨w.heap.size, 0, 1, rfl, rfl, Nat.zero_le _, Nat.zero_le _, fun i r h => by simp at h⟩)) ⟨0, some (w.heap.size, 0, cap, 1), ?_, Nat.le_refl _, fun _ => ⟨fun _ => ⟨1, by simp, fun r hr => by cases hr⟩, Nat.le_refl _, fun _ => .inr ⟨w.heap.size, cap, cap, 1, by simp, rfl, Nat.zero_le _, Nat.le_refl _, fun r hr => by cases hr⟩⟩⟩)
          simp [idx, k, ← hsim.len]
      · obtain rfl : n = 0 := by omega
        refine (grow_walk0 a w).mono fun e w' ⟨he, hw⟩ => ?_
        subst hw
        let k : AM.K := .grow 0 none
        refine ⟨_, H ++ [.grow 0 1], ι ++ [k], _, he, ⟨rfl, rfl⟩, ?_, ?_, (Ext.refl _ _).push (fun b hb => hb.elim), by simp⟩
        · have := hsim.push (n := H.length) (k := k) (o := .grow 0 1) (Ext.refl _ _) (fun _ _ => rfl) (fun b hb => hb.elim) rfl
          exact Sim.out (st := ⟨[], H, [.grow 0 1]⟩) this (sim_fits hsim) _
        · refine .c (.own (.nil _) ⟨0, none, ?_, Nat.le_refl _, fun _ => by cases a <;> simp [Cur]⟩)
          simp [idx, k, ← hsim.len]
end Go.Proofs.Ytamaaiabbganjaa
