import Derived.KernelRfl
import Derived.Test.YtacgmcmnnogbbaaGreatDoorPB4
import Derived.Test.YtacgmcmnnogbbaaGreatDoorPB8
import Derived.Test.YtacgmcmnnogbbaaGreatDoorPB11
namespace Go.Proofs.YtacgmcmnnogbbaaGreatDoor.PX
open Go.RowKit Go.Proofs.YtacgmcmnnogbbaaGreatDoorW.PrintWords Go.Proofs.YtacgmcmnnogbbaaGreatDoorW.PrintLast Go.Proofs.YtacgmcmnnogbbaaGreatDoorW.PrintMore
set_option linter.unusedVariables false
set_option linter.unusedSimpArgs false
set_option maxRecDepth 100000
/-- A text of bytes. -/
def tx (l : List UInt8) : ByteArray := ⟨l.toArray⟩
theorem tx_list (l : List UInt8) : (tx l).data.toList = l := rfl
theorem tx_toList (l : List UInt8) : (tx l).toList = l := by rw [ByteArray.toList_eq]; rfl
theorem tx_size (l : List UInt8) : (tx l).size = l.length := rfl
theorem tx_append (a b : List UInt8) : tx a ++ tx b = tx (a ++ b) := ba_eq (by simp [tx])
theorem Ev.of_mono' {α : Type} {g : Nat → Option α} {r : α} {k : Nat} (hm : ∀ k, LeO (g k) (g (k + 1))) (h : g k = some r) : Ev g r := ⟨k, fun _ hk => at_rounds hm hk h⟩
/-- The numbers' texts: digits, one at least, three at most; the document's text and the reader agree with them. -/
theorem dig_all : ((List.range 601).all fun n => ((Lib.itoa (n : Nat)) != []) && decide ((Lib.itoa (n : Nat)).length ≤ 3) && ((Lib.itoa (n : Nat)).all fun b => decide (48 ≤ b.toNat ∧ b.toNat ≤ 57)) &&
    ((ambryref10_Dec.f 8 (n : Nat)).map (fun t => t.data.toList) == some (Lib.itoa (n : Nat))) && (part_number.f 12 (tx (Lib.itoa (n : Nat))) == some (((n : Nat) : Int), true))) = true := by kernel_rfl
theorem dig {n : Int} (h0 : 0 ≤ n) (h1 : n ≤ 600) : Lib.itoa n ≠ [] ∧ (Lib.itoa n).length ≤ 3 ∧ (∀ b ∈ Lib.itoa n, 48 ≤ b.toNat ∧ b.toNat ≤ 57) ∧ Ev (fun k => ambryref10_Dec.f k n) (tx (Lib.itoa n)) ∧ Ev (fun k => part_number.f k (tx (Lib.itoa n))) (n, true) := by
  obtain ⟨m, rfl⟩ : ∃ m : Nat, n = m := ⟨n.toNat, by omega⟩
  have h := List.all_eq_true.1 dig_all m (List.mem_range.2 (by omega))
  simp only [Bool.and_eq_true, bne_iff_ne, decide_eq_true_iff, List.all_eq_true, beq_iff_eq] at h
  obtain ⟨⟨⟨⟨a, b⟩, c⟩, d⟩, e⟩ := h
  refine ⟨a, b, c, ?_, Ev.of_mono' (k := 12) (fun k => part_number.mono _ k) e⟩
  obtain ⟨t, ht, hl⟩ := Option.map_eq_some_iff.1 d
  have : t = tx (Lib.itoa (m : Nat)) := ba_eq hl
  subst this
  exact Ev.of_mono' (k := 8) (fun k => ambryref10_Dec.mono _ k) ht
theorem number_nil : Ev (fun k => part_number.f k (tx [])) (0, false) := Ev.of_mono' (k := 4) (fun k => part_number.mono _ k) (by kernel_rfl)
theorem index_at (c : UInt8) : ∀ (X Y : List UInt8), (∀ b ∈ X, b ≠ c) → Lib.indexByte (X ++ c :: Y) c = X.length
  | [], Y, _ => by simp [Lib.indexByte]
  | x :: X, Y, h => by
    have hx := h x List.mem_cons_self
    have ih := index_at c X Y (fun b hb => h b (List.mem_cons_of_mem _ hb))
    rw [List.cons_append, Lib.indexByte, if_neg (by simpa using hx), ih, if_neg (by simp)]
    simp
theorem index_none (c : UInt8) : ∀ (X : List UInt8), (∀ b ∈ X, b ≠ c) → Lib.indexByte X c = -1
  | [], _ => rfl
  | x :: X, h => by
    have hx := h x List.mem_cons_self
    have ih := index_none c X (fun b hb => h b (List.mem_cons_of_mem _ hb))
    rw [Lib.indexByte, if_neg (by simpa using hx), ih]
    rfl
theorem cut_at (X Y : List UInt8) (h : ∀ b ∈ X, b ≠ 45) (hs : X.length + Y.length ≤ 1000) : strings_Cut.f (tx (X ++ 45 :: Y)) ⟨#[45]⟩ = some (tx X, tx Y, true) := by
  have hi := index_at 45 X Y h
  have e : strings_Cut.f (tx (X ++ 45 :: Y)) ⟨#[45]⟩ = if (tx (X ++ 45 :: Y)).size ≤ 9223372036854775806 then (if Lib.indexByte (X ++ 45 :: Y) 45 < 0 then some (tx (X ++ 45 :: Y), ⟨#[]⟩, false) else some ((tx (X ++ 45 :: Y)).extract 0 (Lib.indexByte (X ++ 45 :: Y) 45).toNat, (tx (X ++ 45 :: Y)).extract ((Lib.indexByte (X ++ 45 :: Y) 45).toNat + 1) (tx (X ++ 45 :: Y)).size, true)) else none := rfl
  rw [e, hi, if_pos (by rw [tx_size]; simp; omega), if_neg (by omega)]
  congr 3
  · refine ba_eq ?_
    simp [tx]
  · congr 1
    refine ba_eq ?_
    simp [tx, ByteArray.size]
    exact List.take_of_length_le (by omega)
theorem trim_same (l : List UInt8) (hne : l ≠ []) (hs : l.length ≤ 1000) (h0 : ∀ b ∈ l, b ≠ 32 ∧ b ≠ 9) : strings_Trim.f (tx l) ⟨#[32, 9]⟩ = some (tx l) := by
  have hd : ∀ (m : List UInt8), (∀ b ∈ m, b ≠ 32 ∧ b ≠ 9) → m.dropWhile (([32, 9] : List UInt8).contains ·) = m := by
    intro m hm
    cases m with
    | nil => rfl
    | cons x m => rw [List.dropWhile_cons_of_neg]; have := hm x List.mem_cons_self; simp; exact this
  have e : Lib.trimS l [32, 9] = l := by
    unfold Lib.trimS Lib.trimRightS Lib.trimLeftS
    rw [hd l.reverse (fun b hb => h0 b (List.mem_reverse.1 hb)), List.reverse_reverse, hd l h0]
  unfold strings_Trim.f
  rw [if_pos ⟨by rw [tx_size]; omega, by decide, by decide⟩]
  show some (tx (Lib.trimS l [32, 9])) = _
  rw [e]
/-- One span behind the unit: what Parse tells. -/
theorem parse_one (u t : List UInt8) (size : Int) (hu : u.length = 6) (hsame : Ev (fun k => head_Same.f k (tx u) ⟨#[98, 121, 116, 101, 115, 61]⟩) true) (hne : t ≠ []) (hs : t.length ≤ 900) (h0 : ∀ b ∈ t, b ≠ 32 ∧ b ≠ 9 ∧ b ≠ 44) (hsz : 0 ≤ size)
    (x : Int × Int × Bool) (hx : Ev (fun k => part_span.f k (tx t) size) x) :
    Ev (fun k => part_Parse.f k (tx (u ++ t)) size) (if x.2.2 = false then ([], 121) else (if x.1 < x.2.1 then [⟨x.1, x.2.1⟩] else [], 0)) := by
  have e1 : (tx (u ++ t)).extract 0 6 = tx u := ba_eq (by simp [tx, ← hu])
  have e2 : (tx (u ++ t)).extract 6 (tx (u ++ t)).size = tx t := ba_eq (by simp [tx, ByteArray.size, ← hu])
  have e3 : cuts 44 (tx t) = [tx t] := cuts_none (by rw [tx_list, index_none 44 t (fun b hb => (h0 b hb).2.2)]; omega)
  have hm : mx size 0 = size := by unfold mx; split <;> omega
  have hgo : Ev (fun k => part_Parse.go k size [tx t] [] 0) (if x.2.2 = false then ([], 121) else (if x.1 < x.2.1 then [⟨x.1, x.2.1⟩] else [], 0)) := by
    refine (Ev.bind (g := fun (k : Nat) (x : Int × Int × Bool) => if x.2.2 = false then some ([], 121) else some ((if x.1 < x.2.1 then [(⟨x.1, x.2.1⟩ : S56)] else []), (0 : Int))) hx (Ev.const ?_)).congr fun k => ?_
    · split <;> rfl
    · rw [part_Parse.go, trim_same t hne (by omega) (fun b hb => ⟨(h0 b hb).1, (h0 b hb).2.1⟩), Option.bind_some, if_neg (by rw [tx_toList]; exact hne)]
      congr 1
      funext y
      by_cases hy : y.2.2 = false
      · rw [if_pos hy, if_pos hy]
      · rw [if_neg hy, if_neg hy, if_neg (by decide)]
        by_cases hl : y.1 < y.2.1
        · rw [if_pos hl, if_pos hl]; rfl
        · rw [if_neg hl, if_neg hl]; rfl
  refine (Ev.bind (g := fun k b => if b = false then some ([], 121) else part_Parse.go k size [tx t] [] 0) hsame (hgo.congr fun k => by rw [if_neg (by decide)])).congr fun k => ?_
  rw [part_Parse.f, if_neg (by rw [tx_size]; simp; omega), e1, e2, e3, hm, if_pos (by rw [tx_size]; simp; omega)]
end Go.Proofs.YtacgmcmnnogbbaaGreatDoor.PX

namespace Go.Proofs.YtacgmcmnnogbbaaGreatDoor.PX
open Go.RowKit Go.Proofs.YtacgmcmnnogbbaaGreatDoorW.PrintWords Go.Proofs.YtacgmcmnnogbbaaGreatDoorW.PrintLast Go.Proofs.YtacgmcmnnogbbaaGreatDoorW.PrintMore
set_option linter.unusedVariables false
set_option linter.unusedSimpArgs false
set_option maxRecDepth 100000
theorem digits_no45 {n : Int} (h0 : 0 ≤ n) (h1 : n ≤ 600) : ∀ b ∈ Lib.itoa n, b ≠ 45 := by
  intro b hb e
  have := (dig h0 h1).2.2.1 b hb
  subst e
  revert this
  decide
theorem span_both {a b size : Int} (ha0 : 0 ≤ a) (ha1 : a ≤ 600) (hb0 : 0 ≤ b) (hb1 : b ≤ 600) (hs : 0 ≤ size ∧ size ≤ 1000) :
    Ev (fun k => part_span.f k (tx (Lib.itoa a ++ 45 :: Lib.itoa b)) size) (if a > b then (0, 0, false) else if b ≥ size then (a, size, true) else (a, b + 1, true)) := by
  obtain ⟨da1, da2, da3, _, K1, da4⟩ := dig ha0 ha1
  replace da4 : ∀ k, K1 ≤ k → part_number.f k (tx (Lib.itoa a)) = some (a, true) := da4
  obtain ⟨db1, db2, db3, _, K2, db4⟩ := dig hb0 hb1
  replace db4 : ∀ k, K2 ≤ k → part_number.f k (tx (Lib.itoa b)) = some (b, true) := db4
  refine ⟨max K1 K2 + 1, fun k hk => ?_⟩
  show part_span.f k (tx (Lib.itoa a ++ 45 :: Lib.itoa b)) size = _
  rw [part_span.f, cut_at _ _ (digits_no45 ha0 ha1) (by omega), Option.bind_some]
  dsimp only
  rw [da4 k (by omega), Option.bind_some, db4 k (by omega), Option.bind_some]
  dsimp only
  rw [if_pos rfl, tx_toList, tx_toList, if_neg da1, if_pos rfl, if_neg db1, if_pos rfl]
  obtain ⟨j, rfl⟩ : ∃ j, k = j + 1 := ⟨k - 1, by omega⟩
  rw [part_span.j0, tx_toList, tx_toList, if_neg da1, if_neg db1, wrap_id (by omega) (by omega)]
  by_cases h : a > b
  · rw [if_pos (decide_eq_true h), if_pos h]
  · rw [if_neg (by simpa using h), if_neg h]
    by_cases h2 : b ≥ size
    · rw [if_pos h2, if_pos h2]
    · rw [if_neg h2, if_neg h2]
theorem span_from {a size : Int} (ha0 : 0 ≤ a) (ha1 : a ≤ 600) : Ev (fun k => part_span.f k (tx (Lib.itoa a ++ 45 :: [])) size) (a, size, true) := by
  obtain ⟨da1, da2, da3, _, K1, da4⟩ := dig ha0 ha1
  replace da4 : ∀ k, K1 ≤ k → part_number.f k (tx (Lib.itoa a)) = some (a, true) := da4
  obtain ⟨K2, db4⟩ := number_nil
  replace db4 : ∀ k, K2 ≤ k → part_number.f k (tx []) = some (0, false) := db4
  refine ⟨max K1 K2 + 1, fun k hk => ?_⟩
  show part_span.f k (tx (Lib.itoa a ++ 45 :: [])) size = _
  rw [part_span.f, cut_at _ _ (digits_no45 ha0 ha1) (by simp; omega), Option.bind_some]
  dsimp only
  rw [da4 k (by omega), Option.bind_some, db4 k (by omega), Option.bind_some]
  dsimp only
  rw [if_pos rfl, tx_toList, tx_toList, if_neg da1, if_pos rfl, if_pos rfl, if_neg (by decide)]
  obtain ⟨j, rfl⟩ : ∃ j, k = j + 1 := ⟨k - 1, by omega⟩
  rw [part_span.j0, tx_toList, tx_toList, if_neg da1, if_pos rfl, if_neg (by decide)]
theorem span_last {b size : Int} (hb0 : 0 ≤ b) (hb1 : b ≤ 600) (hs : 0 ≤ size ∧ size ≤ 1000) : Ev (fun k => part_span.f k (tx ([] ++ 45 :: Lib.itoa b)) size) (mx (size - b) 0, size, true) := by
  obtain ⟨db1, db2, db3, _, K2, db4⟩ := dig hb0 hb1
  replace db4 : ∀ k, K2 ≤ k → part_number.f k (tx (Lib.itoa b)) = some (b, true) := db4
  obtain ⟨K1, da4⟩ := number_nil
  replace da4 : ∀ k, K1 ≤ k → part_number.f k (tx []) = some (0, false) := da4
  refine ⟨max K1 K2 + 1, fun k hk => ?_⟩
  show part_span.f k (tx ([] ++ 45 :: Lib.itoa b)) size = _
  rw [part_span.f, cut_at [] _ (by simp) (by simp; omega), Option.bind_some]
  dsimp only
  rw [da4 k (by omega), Option.bind_some, db4 k (by omega), Option.bind_some]
  dsimp only
  rw [if_pos rfl, tx_toList, tx_toList, if_pos rfl, if_neg db1, if_pos rfl, if_neg (by decide)]
  obtain ⟨j, rfl⟩ : ∃ j, k = j + 1 := ⟨k - 1, by omega⟩
  rw [part_span.j0, tx_toList, if_pos rfl, if_neg (by decide), wrap_id (by omega) (by omega)]
end Go.Proofs.YtacgmcmnnogbbaaGreatDoor.PX

