/-
  strings.Join as a call of the abstract machine.
  Conditions: none.
-/
import Derived.Test.YtikgpomnibbioaaGreatDoorWr
import Derived.Test.YtikgpomnibbioaaGreatDoorAbsN
import Derived.Shelf.Strings.OnBuilder
open Go Go.AM Go.Proofs
namespace Go.Proofs
open Go.Shelf
def Tryz.lays156_ren : Go.Shelf.Ren := ⟨fun | 156 => 31 | 165 => 56 | 166 => 57 | 169 => 58 | 240 => 80 | 241 => 81 | 276 => 95 | 277 => 96 | n => n, fun | 31 => 50 | 9 => 9 | 3 => 3 | 4 => 4 | 0 => 0 | 20 => 20 | 72 => 69 | 76 => 73 | 70 => 67 | 37 => 55 | 75 => 72 | 127 => 82 | 164 => 85 | 5 => 5 | 80 => 75 | n => n, fun | n => n⟩
theorem Tryz.lays156 : Go.Proofs.Lays.n156 Tryz.prog Tryz.lays156_ren := {
  mixed := by kernel_rfl
  f156 := Tryz.func31.trans (congrArg some (by kernel_rfl))
  f165 := Tryz.func56.trans (congrArg some (by kernel_rfl))
  f166 := Tryz.func57.trans (congrArg some (by kernel_rfl))
  f169 := Tryz.func58.trans (congrArg some (by kernel_rfl))
  f240 := Tryz.func80.trans (congrArg some (by kernel_rfl))
  f241 := Tryz.func81.trans (congrArg some (by kernel_rfl))
  f276 := Tryz.func95.trans (congrArg some (by kernel_rfl))
  f277 := Tryz.func96.trans (congrArg some (by kernel_rfl))
  t0 := Tryz.underlying0
  a0 := Tryz.isAgg0
  z0 := Tryz.sizeOf0
  v0 := Tryz.zeroValue0
  t3 := Tryz.underlying3
  a3 := Tryz.isAgg3
  z3 := Tryz.sizeOf3
  v3 := Tryz.zeroValue3
  t4 := Tryz.underlying4
  a4 := Tryz.isAgg4
  z4 := Tryz.sizeOf4
  v4 := Tryz.zeroValue4
  t9 := Tryz.underlying9
  a9 := Tryz.isAgg9
  z9 := Tryz.sizeOf9
  v9 := Tryz.zeroValue9
  t20 := Tryz.underlying20
  a20 := Tryz.isAgg20
  z20 := Tryz.sizeOf20
  v20 := Tryz.zeroValue20
  t31 := Tryz.underlying50
  a31 := Tryz.isAgg50
  z31 := Tryz.sizeOf50
  v31 := Tryz.zeroValue50
  t37 := Tryz.underlying55
  a37 := Tryz.isAgg55
  z37 := Tryz.sizeOf55
  v37 := Tryz.zeroValue55
  t70 := Tryz.underlying67
  a70 := Tryz.isAgg67
  z70 := Tryz.sizeOf67
  v70 := Tryz.zeroValue67
  t72 := Tryz.underlying69
  a72 := Tryz.isAgg69
  z72 := Tryz.sizeOf69
  v72 := Tryz.zeroValue69
  t75 := Tryz.underlying72
  a75 := Tryz.isAgg72
  z75 := Tryz.sizeOf72
  v75 := Tryz.zeroValue72
  t76 := Tryz.underlying73
  a76 := Tryz.isAgg73
  z76 := Tryz.sizeOf73
  v76 := Tryz.zeroValue73
  t127 := Tryz.underlying82
  a127 := Tryz.isAgg82
  z127 := Tryz.sizeOf82
  v127 := Tryz.zeroValue82
  t164 := Tryz.underlying85
  a164 := Tryz.isAgg85
  z164 := Tryz.sizeOf85
  v164 := Tryz.zeroValue85 }
theorem Tryz.Builder_Extra_156 : Builder.Extra Tryz.prog Tryz.lays156_ren := {
  sizeBuilder := by kernel_rfl
  liesBuilder := by kernel_rfl
  t5 := Tryz.underlying5
  a5 := Tryz.isAgg5
  z5 := Tryz.sizeOf5
  v5 := Tryz.zeroValue5
  infoByte := by kernel_rfl
  cellsByte := by kernel_rfl
  sizeByte := by kernel_rfl
  neB5 := by decide }
end Go.Proofs
namespace Go.Proofs.YtikgpomnibbioaaGreatDoor
open Go.RowKit
set_option linter.unusedVariables false
set_option linter.unusedSimpArgs false
set_option maxRecDepth 100000
theorem join_joinS (c : UInt8) : ∀ ws : List (List UInt8), Lib.join ws [c] = joinS c ws
  | [] => rfl
  | [a] => by simp [joinS, Lib.join_one]
  | a :: b :: l => by
    have ih := join_joinS c (b :: l)
    rw [joinS, ← ih, Lib.join_cons, Lib.join_cons]
    simp [Lib.joinTail]
theorem join_calls (ws : List (List UInt8)) (c : UInt8) (hn : ws.length ≤ 1000000) (hlen : (joinS c ws).length ≤ 100000000000000) (H : Heap) : ACalls Tryz.prog 31 [.c (.d (.sl (ws.map fun x => [.str x]))), .c (.d (.str [c]))] H
    (fun r H' => H' = H ∧ r = .c (.d (.str (joinS c ws)))) := by
  refine ⟨⟨_, Tryz.func31, by kernel_rfl, by decide⟩, fun w ι cargs hsim hl ha => ?_⟩
  obtain ⟨v0, v1, rfl⟩ : ∃ v0 v1, cargs = [v0, v1] := by
    match cargs, hl with
    | [a, b], _ => exact ⟨a, b, rfl⟩
  have h0 := ha 0 _ _ rfl rfl
  have h1 := ha 1 _ _ rfl rfl
  obtain ⟨sep, rfl, hsep⟩ : ∃ sep : ByteArray, v1 = .string sep ∧ sep.data.toList = [c] := by
    cases h1 with
    | c h => cases h with
      | d h =>
        generalize hcl : [c] = l at h
        cases h with
        | str s _ => exact ⟨s, rfl, by first | exact hcl.symm | rfl⟩
  have key : ∀ (e : Ending) (w' : World), (e = .returned (.string ⟨(joinS c ws).toArray⟩) ∧ Below w.heap.size w w') →
      ∃ r H' ι' v, e = .returned v ∧ (H' = H ∧ r = .c (.d (.str (joinS c ws)))) ∧ Sim w' ι' H'.length H' ∧ RA w' ι' H'.length r v ∧ Ext w ι w' ι' ∧ H.length ≤ H'.length := by
    rintro e w' ⟨rfl, hb⟩
    have hfr : ∀ b, b < w.heap.size → w'.heap[b]? = w.heap[b]? := fun b h => hb.block b h
    have hx : Ext w ι w' ι := Ext.of_blocks hb.os hb.tape hb.output hb.size hfr
    refine ⟨_, _, ι, _, rfl, ⟨rfl, rfl⟩, hsim.of_blocks hx hfr, .c (.d ?_), hx, Nat.le_refl _⟩
    have := RD.str (w := w') (S := AM.Safe w' ι) ⟨(joinS c ws).toArray⟩ (by simp [maxStr]; omega)
    simpa using this
  have hd : RD w (AM.Safe w ι) (.sl (ws.map fun x => [.str x])) v0 := by
    cases h0 with
    | c h => cases h with
      | d h => exact h
  generalize hrows : (ws.map fun x => [D.str x]) = rows at hd
  have hrl : rows.length = ws.length := by rw [← hrows]; simp
  cases hd with
  | nil a =>
    have hw : ws = [] := by
      cases ws with
      | nil => rfl
      | cons a l => simp at hrows
    subst hw
    refine (Any.strings_Join_none Tryz.lays156 Tryz.Builder_Extra_156 a 0 sep w).mono ?_
    rintro e w' ⟨rfl, rfl⟩
    exact key _ _ ⟨rfl, Below.refl _ _⟩
  | sl rows b off cap sz vs g1 g2 g3 g4 g5 =>
    by_cases hw : ws = []
    · subst hw
      simp at hrows
      subst hrows
      refine (Any.strings_Join_none Tryz.lays156 Tryz.Builder_Extra_156 (some ⟨b, off, none⟩) cap sep w).mono ?_
      rintro e w' ⟨rfl, rfl⟩
      exact key _ _ ⟨rfl, Below.refl _ _⟩
    · have hsz : sz = 1 := by
        cases ws with
        | nil => exact absurd rfl hw
        | cons a l =>
          have := g3 0 [.str a] (by rw [← hrows]; rfl)
          simpa using this.symm
      subst hsz
      have hcell : ∀ (j : Nat) (x : List UInt8), ws[j]? = some x → w.cell? ⟨b, off + j, none⟩ = some (.string ⟨x.toArray⟩) ∧ b < w.heap.size := by
        intro j x hx
        have hr : rows[j]? = some [.str x] := by rw [← hrows]; simp [hx]
        obtain ⟨c1, c2⟩ := g4 j _ 0 _ hr rfl
        have c3 := g5 j _ 0 _ hr rfl
        simp only [Nat.mul_one, Nat.add_zero] at c1 c2 c3
        generalize hl2 : x = l at c3
        generalize vs j = v at c1 c3
        cases c3 with
        | str s _ =>
          refine ⟨?_, c2.1⟩
          rw [c1]
      have hbk : b < w.heap.size := by
        cases ws with
        | nil => exact absurd rfl hw
        | cons a l => exact (hcell 0 a rfl).2
      have hxs : (ws.map fun x => (⟨x.toArray⟩ : ByteArray)).length = rows.length := by simp [hrl]
      have hmap : ((ws.map fun x => (⟨x.toArray⟩ : ByteArray)).map (·.data.toList)) = ws := by
        simp [Function.comp_def]
      have hj := Any.strings_Join Tryz.lays156 Tryz.Builder_Extra_156 b off cap (ws.map fun x => (⟨x.toArray⟩ : ByteArray)) sep w (fun j x hx => by
        simp only [List.getElem?_map, Option.map_eq_some_iff] at hx
        obtain ⟨y, hy, rfl⟩ := hx
        exact (hcell j y hy).1) hbk (by rw [hxs, hrl]; omega) (by rw [hxs]; exact g1) (by rw [hmap, hsep, join_joinS]; omega)
      rw [hmap, hsep, join_joinS, hxs] at hj
      exact hj.mono fun e w' h => key e w' h
end Go.Proofs.YtikgpomnibbioaaGreatDoor
