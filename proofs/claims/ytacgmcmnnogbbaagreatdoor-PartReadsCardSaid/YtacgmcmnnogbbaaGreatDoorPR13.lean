import Derived.KernelRfl
import Derived.Test.YtacgmcmnnogbbaaGreatDoorPR4
import Derived.Test.YtacgmcmnnogbbaaGreatDoorPR9
import Derived.Test.YtacgmcmnnogbbaaGreatDoorPR12
namespace Go.Proofs.YtacgmcmnnogbbaaGreatDoor.PX
open Go.RowKit Go.Proofs.YtacgmcmnnogbbaaGreatDoorW.PrintWords Go.Proofs.YtacgmcmnnogbbaaGreatDoorW.PrintLast Go.Proofs.YtacgmcmnnogbbaaGreatDoorW.PrintMore
set_option linter.unusedVariables false
set_option linter.unusedSimpArgs false
set_option maxRecDepth 100000
/-- A text of bytes. -/
def tx (l : List UInt8) : ByteArray := ⟨l.toArray⟩
theorem tx_toList (l : List UInt8) : (tx l).toList = l := by rw [ByteArray.toList_eq]; rfl
theorem tx_size (l : List UInt8) : (tx l).size = l.length := rfl
theorem Ev.of_mono' {α : Type} {g : Nat → Option α} {r : α} {k : Nat} (hm : ∀ k, LeO (g k) (g (k + 1))) (h : g k = some r) : Ev g r := ⟨k, fun _ hk => at_rounds hm hk h⟩
theorem number_nil : Ev (fun k => part_number.f k (tx [])) (0, false) := Ev.of_mono' (k := 4) (fun k => part_number.mono _ k) (by kernel_rfl)
theorem index_at (c : UInt8) : ∀ (X Y : List UInt8), (∀ b ∈ X, b ≠ c) → Lib.indexByte (X ++ c :: Y) c = X.length
  | [], Y, _ => by simp [Lib.indexByte]
  | x :: X, Y, h => by
    have hx := h x List.mem_cons_self
    have ih := index_at c X Y (fun b hb => h b (List.mem_cons_of_mem _ hb))
    rw [List.cons_append, Lib.indexByte, if_neg (by simpa using hx), ih, if_neg (by simp)]
    simp
theorem index_none (c : UInt8) : ∀ (X : List UInt8), (∀ b ∈ X, b ≠ c) → Lib.indexByte X c = -1
  | [], _ => rfl
  | x :: X, h => by
    have hx := h x List.mem_cons_self
    have ih := index_none c X (fun b hb => h b (List.mem_cons_of_mem _ hb))
    rw [Lib.indexByte, if_neg (by simpa using hx), ih]
    rfl
theorem cut_at (X Y : List UInt8) (h : ∀ b ∈ X, b ≠ 45) (hs : X.length + Y.length ≤ 1000) : strings_Cut.f (tx (X ++ 45 :: Y)) ⟨#[45]⟩ = some (tx X, tx Y, true) := by
  have hi := index_at 45 X Y h
  have e : strings_Cut.f (tx (X ++ 45 :: Y)) ⟨#[45]⟩ = if (tx (X ++ 45 :: Y)).size ≤ 9223372036854775806 then (if Lib.indexByte (X ++ 45 :: Y) 45 < 0 then some (tx (X ++ 45 :: Y), ⟨#[]⟩, false) else some ((tx (X ++ 45 :: Y)).extract 0 (Lib.indexByte (X ++ 45 :: Y) 45).toNat, (tx (X ++ 45 :: Y)).extract ((Lib.indexByte (X ++ 45 :: Y) 45).toNat + 1) (tx (X ++ 45 :: Y)).size, true)) else none := rfl
  rw [e, hi, if_pos (by rw [tx_size]; simp; omega), if_neg (by omega)]
  congr 3
  · refine ba_eq ?_
    simp [tx]
  · congr 1
    refine ba_eq ?_
    simp [tx, ByteArray.size]
    exact List.take_of_length_le (by omega)
end Go.Proofs.YtacgmcmnnogbbaaGreatDoor.PX

namespace Go.Proofs.YtacgmcmnnogbbaaGreatDoor.PX
open Go.RowKit Go.Proofs.YtacgmcmnnogbbaaGreatDoorW.PrintWords Go.Proofs.YtacgmcmnnogbbaaGreatDoorW.PrintLast Go.Proofs.YtacgmcmnnogbbaaGreatDoorW.PrintMore
set_option linter.unusedVariables false
set_option linter.unusedSimpArgs false
theorem bt_tx (pre : List UInt8) (b : UInt8) (r : List UInt8) {i : Int} (hi : i = (pre.length : Int)) : bt (tx (pre ++ b :: r)) i = (b.toNat : Int) := by
  subst hi
  have h : ((pre.length : Int)).toNat < (tx (pre ++ b :: r)).size := by rw [tx_size]; simp
  rw [← bt_at _ _ h]
  simp [tx, ByteArray.getElem_eq_getElem_data]
theorem tx_eq {a : ByteArray} : tx a.data.toList = a := ba_eq rfl
theorem ex_tx (D U V : List UInt8) {i j : Nat} (hi : i = D.length) (hj : j = D.length + U.length) : (tx (D ++ U ++ V)).extract i j = tx U := by
  subst hi; subst hj
  refine ba_eq ?_
  simp [tx]
theorem ex_tx' (D U : List UInt8) {i j : Nat} (hi : i = D.length) (hj : j = D.length + U.length) : (tx (D ++ U)).extract i j = tx U := by
  have := ex_tx D U [] hi hj
  rwa [List.append_nil] at this
theorem u8_inj {a b : UInt8} (h : (a.toNat : Int) = (b.toNat : Int)) : a = b := UInt8.toNat_inj.1 (by omega)
theorem small_eq (c : UInt8) : head_small.f (c.toNat : Int) = some ((lowb c).toNat : Int) := by
  have hc := c.toNat_lt
  unfold head_small.f lowb
  by_cases h1 : 65 ≤ c.toNat
  · by_cases h2 : c.toNat ≤ 90
    · rw [if_pos (by omega), if_pos (by omega), if_pos ⟨h1, h2⟩]
      congr 1
      rw [UInt8.toNat_ofNat']
      omega
    · rw [if_pos (by omega), if_neg (by omega), if_neg (fun h => h2 h.2)]
  · rw [if_neg (by omega), if_neg (fun h => h1 h.1)]
theorem head_same_l0 (n : Int) : ∀ (a b pa pb : List UInt8), pa.length = pb.length → a.length = b.length → n = ((pa ++ a).length : Nat) → n ≤ 140737488351232 →
    Ev (fun k => head_Same.l0 k (tx (pa ++ a)) (tx (pb ++ b)) n (pa.length : Nat)) (decide (a.map lowb = b.map lowb))
  | [], [], pa, pb, _, _, hn, _ => Ev.succ (Ev.const (x := some true) rfl |>.congr fun k => by rw [head_Same.l0, if_neg (by simp at hn; omega)])
  | [], _ :: _, _, _, _, h, _, _ => by simp at h
  | _ :: _, [], _, _, _, h, _, _ => by simp at h
  | x :: a, y :: b, pa, pb, hp, hab, hn, hs => by
    have hla : ((pa ++ x :: a).length : Int) = pa.length + 1 + a.length := by simp; omega
    have hlb : ((pb ++ y :: b).length : Int) = pb.length + 1 + b.length := by simp; omega
    simp only [List.length_cons] at hab
    have step (k : Nat) : head_Same.l0 (k + 1) (tx (pa ++ x :: a)) (tx (pb ++ y :: b)) n (pa.length : Nat) = if ((lowb x).toNat : Int) = ((lowb y).toNat : Int) then head_Same.l0 k (tx (pa ++ x :: a)) (tx (pb ++ y :: b)) n ((pa ++ [x]).length : Nat) else some false := by
      rw [head_Same.l0, if_pos (by omega), if_pos (by omega), if_pos (by rw [tx_size]; omega), bt_tx pa x a rfl, small_eq, Option.bind_some, if_pos (by rw [tx_size]; omega), bt_tx pb y b (by omega), small_eq, Option.bind_some, wrap_id (n := (pa.length : Nat) + 1) (by omega) (by omega)]
      simp
    by_cases hc : lowb x = lowb y
    · have ih := head_same_l0 n a b (pa ++ [x]) (pb ++ [y]) (by simpa using hp) (by omega) (by rw [hn]; simp) hs
      refine Ev.succ (Ev.congr (f := fun k => head_Same.l0 k (tx ((pa ++ [x]) ++ a)) (tx ((pb ++ [y]) ++ b)) n ((pa ++ [x]).length : Nat)) ?_ fun k => ?_)
      · have e : decide ((x :: a).map lowb = (y :: b).map lowb) = decide (a.map lowb = b.map lowb) := by simp [hc]
        rw [e]; exact ih
      · rw [step k, if_pos (by rw [hc])]
        simp
    · refine Ev.succ (Ev.const (x := some false) ?_ |>.congr fun k => ?_)
      · simp [hc]
      · rw [step k, if_neg (fun h => hc (u8_inj h))]
theorem same_head (a b : List UInt8) (h : a.length ≤ 140737488351232) : Ev (fun k => head_Same.f k (tx a) (tx b)) (decide (a.map lowb = b.map lowb)) := by
  by_cases hl : a.length = b.length
  · refine (head_same_l0 (a.length : Nat) a b [] [] rfl hl (by simp) (by omega)).congr fun k => ?_
    rw [head_Same.f, if_pos (by rw [tx_size, tx_size]; omega)]
    rfl
  · refine Ev.const (x := some false) ?_ |>.congr fun k => ?_
    · have : ¬ a.map lowb = b.map lowb := fun e => hl (by have := congrArg List.length e; simpa using this)
      simp [this]
    · rw [head_Same.f, if_neg (by rw [tx_size, tx_size]; omega)]
theorem same_ref (a b : List UInt8) (h : a.length ≤ 140737488351232) : ambryref10_Same.f (tx a) (tx b) = some (decide (a.map lowb = b.map lowb)) := by
  by_cases hl : a.length = b.length
  · rw [ambryref10_Same.f, if_pos (by rw [tx_size, tx_size]; omega), ambryref10_Low.f, if_pos (by rw [tx_size]; omega), ambryref10_Low.f, if_pos (by rw [tx_size]; omega), Option.bind_some, Option.bind_some]
    show some ((tx (a.map lowb)).toList == (tx (b.map lowb)).toList) = _
    rw [tx_toList, tx_toList]
    congr 1
    exact Bool.eq_iff_iff.2 (by simp)
  · have : ¬ a.map lowb = b.map lowb := fun e => hl (by have := congrArg List.length e; simpa using this)
    rw [ambryref10_Same.f, if_neg (by rw [tx_size, tx_size]; omega)]
    simp [this]
def isB (b : UInt8) : Bool := ([32, 9] : List UInt8).contains b
def dr (l : List UInt8) : List UInt8 := (l.reverse.dropWhile isB).reverse
theorem dr_cons (c : UInt8) (t : List UInt8) : dr (c :: t) = if (dr t = [] ∧ isB c = true) then [] else c :: dr t := by
  unfold dr
  rw [List.reverse_cons, List.dropWhile_append]
  by_cases h : (t.reverse.dropWhile isB) = []
  · rw [h]
    by_cases hc : isB c = true
    · simp [hc]
    · simp [hc]
  · have : (t.reverse.dropWhile isB).isEmpty = false := by simpa using h
    rw [this]
    simp [h]
theorem dl_dr (l : List UInt8) : (dr l).dropWhile isB = dr (l.dropWhile isB) := by
  induction l with
  | nil => rfl
  | cons c t ih =>
    rw [dr_cons]
    by_cases hc : isB c = true
    · rw [List.dropWhile_cons_of_pos hc]
      by_cases h : dr t = []
      · rw [if_pos ⟨h, hc⟩, ← ih, h]
      · rw [if_neg (fun x => h x.1), List.dropWhile_cons_of_pos hc, ih]
    · rw [if_neg (fun x => hc x.2), List.dropWhile_cons_of_neg hc, List.dropWhile_cons_of_neg hc, dr_cons, if_neg (fun x => hc x.2)]
def trimB (l : List UInt8) : List UInt8 := dr (l.dropWhile isB)
theorem trimB_len (l : List UInt8) : (trimB l).length ≤ l.length := by
  have h1 : ∀ m : List UInt8, (m.dropWhile isB).length ≤ m.length := fun m => (List.dropWhile_suffix isB).length_le
  unfold trimB dr
  have := h1 l
  have := h1 (l.dropWhile isB).reverse
  simp at this ⊢
  omega
theorem trim_prog (l : List UInt8) (h : l.length ≤ 140737488351232) : strings_Trim.f (tx l) ⟨#[32, 9]⟩ = some (tx (trimB l)) := by
  unfold strings_Trim.f
  rw [if_pos ⟨by rw [tx_size]; omega, by decide, by decide⟩]
  show some (tx (Lib.trimS l [32, 9])) = _
  unfold trimB
  rw [← dl_dr]
  rfl
theorem blank_eq (b : UInt8) : ambryref10_blank.f (b.toNat : Int) = some (isB b) := by
  unfold ambryref10_blank.f
  by_cases h : (b.toNat : Int) = 32
  · obtain rfl : b = 32 := u8_inj h
    rfl
  · rw [if_neg h]
    congr 1
    have h1 : (b == 32) = false := by
      rw [beq_eq_false_iff_ne]
      rintro rfl
      exact h rfl
    by_cases h2 : b = 9
    · subst h2; rfl
    · have h3 : ((b.toNat : Int) == 9) = false := by
        rw [beq_eq_false_iff_ne]
        intro h4
        exact h2 (u8_inj (b := 9) h4)
      have h5 : (b == 9) = false := beq_eq_false_iff_ne.2 h2
      simp [isB, h1, h5, h3, h2]
      rintro rfl
      exact h rfl
theorem trim_l1 (l : List UInt8) (h : l.length ≤ 140737488351232) : Ev (fun k => ambryref10_Trim.l1 k (tx l)) (tx (dr l)) := by
  induction l using rev_ind with
  | h0 => exact Ev.succ (Ev.const (x := some (tx [])) rfl |>.congr fun k => by rw [ambryref10_Trim.l1, if_neg (by rw [tx_size]; decide)])
  | h1 l b ih =>
    have hs : ((tx (l ++ [b])).size : Int) = l.length + 1 := by rw [tx_size]; simp
    have hd : dr (l ++ [b]) = if isB b = true then dr l else l ++ [b] := by
      unfold dr
      rw [List.reverse_append, List.reverse_cons, List.reverse_nil, List.nil_append, List.singleton_append]
      by_cases hb : isB b = true
      · rw [List.dropWhile_cons_of_pos hb, if_pos hb]
      · rw [List.dropWhile_cons_of_neg hb, if_neg hb]; simp
    have step (k : Nat) : ambryref10_Trim.l1 (k + 1) (tx (l ++ [b])) = if isB b = true then ambryref10_Trim.l1 k (tx l) else some (tx (l ++ [b])) := by
      have hx : l.length ≤ 140737488351232 := by simp at h; omega
      rw [ambryref10_Trim.l1, hs, wrap_id (n := (l.length : Int) + 1 - 1) (by omega) (by omega), if_pos (by omega), if_pos (by omega), if_pos (by omega), bt_tx l b [] (by omega), blank_eq, Option.bind_some]
      have e : (tx (l ++ [b])).extract 0 ((l.length : Int) + 1 - 1).toNat = tx l := by
        have := ex_tx [] l [b] (i := 0) (j := ((l.length : Int) + 1 - 1).toNat) rfl (by simp)
        simpa using this
      rw [e]
      by_cases hb : isB b = true
      · rw [if_pos hb, if_pos hb, if_pos (by omega)]
      · rw [if_neg hb, if_neg hb]
    rw [hd]
    by_cases hb : isB b = true
    · rw [if_pos hb]
      exact Ev.succ ((ih (by simp at h; omega)).congr fun k => (step k).trans (if_pos hb))
    · rw [if_neg hb]
      exact Ev.succ (Ev.const rfl |>.congr fun k => (step k).trans (if_neg hb))
theorem trim_l0 : ∀ (l : List UInt8), l.length ≤ 140737488351232 → Ev (fun k => ambryref10_Trim.l0 k (tx l)) (tx (trimB l))
  | [], h => by
    refine Ev.succ (Ev.succ ((trim_l1 [] h).congr fun k => ?_))
    rw [ambryref10_Trim.l0, if_neg (by rw [tx_size]; decide), ambryref10_Trim.j1]
  | b :: l, h => by
    have hs : ((tx (b :: l)).size : Int) = l.length + 1 := by rw [tx_size]; simp
    have e : (tx (b :: l)).extract 1 (tx (b :: l)).size = tx l := by
      rw [tx_size]
      exact ex_tx' [b] l rfl (by simp; omega)
    have hbt := bt_tx [] b l (i := 0) rfl
    rw [List.nil_append] at hbt
    have step (k : Nat) : ambryref10_Trim.l0 (k + 1) (tx (b :: l)) = if isB b = true then ambryref10_Trim.l0 k (tx l) else ambryref10_Trim.j1 k (tx (b :: l)) := by
      rw [ambryref10_Trim.l0, if_pos (by omega), if_pos (by omega), hbt, blank_eq, Option.bind_some, e]
      by_cases hb : isB b = true
      · rw [if_pos hb, if_pos hb, if_pos (by omega)]
      · rw [if_neg hb, if_neg hb]
    unfold trimB
    by_cases hb : isB b = true
    · rw [List.dropWhile_cons_of_pos hb]
      exact Ev.succ ((trim_l0 l (by simp at h; omega)).congr fun k => (step k).trans (if_pos hb))
    · rw [List.dropWhile_cons_of_neg hb]
      refine Ev.succ (Ev.succ ((trim_l1 (b :: l) h).congr fun k => ?_))
      rw [step, if_neg hb, ambryref10_Trim.j1]
theorem trim_ref (l : List UInt8) (h : l.length ≤ 140737488351232) : Ev (fun k => ambryref10_Trim.f k (tx l)) (tx (trimB l)) := trim_l0 l h
def isD (b : UInt8) : Bool := decide (48 ≤ b.toNat ∧ b.toNat ≤ 57)
def dstep (a : Nat) (b : UInt8) : Nat := 10 * a + (b.toNat - 48)
def numN (a : Nat) (l : List UInt8) : Nat := l.foldl dstep a
theorem numN_nil (a : Nat) : numN a [] = a := rfl
theorem numN_cons (a : Nat) (b : UInt8) (l : List UInt8) : numN a (b :: l) = numN (dstep a b) l := List.foldl_cons ..
theorem numN_lt : ∀ (l : List UInt8) (a M : Nat), a < M → l.all isD = true → numN a l < M * 10 ^ l.length
  | [], a, M, h, _ => by rw [numN_nil, List.length_nil, Nat.pow_zero, Nat.mul_one]; exact h
  | b :: l, a, M, h, hd => by
    simp only [List.all_cons, Bool.and_eq_true] at hd
    have hb := of_decide_eq_true hd.1
    have := numN_lt l (dstep a b) (M * 10) (by unfold dstep; omega) hd.2
    rw [numN_cons, List.length_cons, Nat.pow_succ, Nat.mul_comm (10 ^ l.length) 10, ← Nat.mul_assoc]
    exact this
def numI (a : Nat) (l : List UInt8) : Int × Bool := if l.all isD = true then (((numN a l : Nat) : Int), true) else (0, false)
theorem numI_nil (a : Nat) : numI a [] = ((a : Int), true) := rfl
theorem numI_ok {b : UInt8} (hb : isD b = true) (a : Nat) (l : List UInt8) : numI a (b :: l) = numI (dstep a b) l := by
  unfold numI
  simp only [List.all_cons, hb, Bool.true_and, numN_cons]
theorem numI_bad {b : UInt8} (hb : isD b = false) (a : Nat) (l : List UInt8) : numI a (b :: l) = (0, false) := by
  unfold numI
  simp only [List.all_cons, hb, Bool.false_and, Bool.false_eq_true, if_false]
def numR (l : List UInt8) : Int × Bool := if l ≠ [] ∧ l.length ≤ 18 then numI 0 l else (0, false)
theorem numR_range (l : List UInt8) : 0 ≤ (numR l).1 ∧ (numR l).1 < 1000000000000000000 := by
  unfold numR numI
  split
  · rename_i h
    split
    · rename_i h'
      have h1 := numN_lt l 0 1 (by decide) h'
      have h2 : 10 ^ l.length ≤ 10 ^ 18 := Nat.pow_le_pow_right (by decide) h.2
      have h3 : (10 : Nat) ^ 18 = 1000000000000000000 := by simp
      show 0 ≤ ((numN 0 l : Nat) : Int) ∧ ((numN 0 l : Nat) : Int) < _
      rw [Nat.one_mul] at h1
      rw [h3] at h2
      obtain ⟨x, hx⟩ : ∃ x, x = 10 ^ l.length := ⟨_, rfl⟩
      rw [← hx] at h1 h2
      omega
    · exact ⟨Int.le_refl _, by omega⟩
  · exact ⟨Int.le_refl _, by omega⟩
theorem numR_nil : numR [] = (0, false) := rfl
theorem num_step (b : UInt8) (a : Nat) (ha : a < 100000000000000000) (hb : isD b = true) : wrap64 ((wrap64 (10 * (a : Int))) + (((b.toNat : Int) - 48) % 256)) = ((dstep a b : Nat) : Int) := by
  have hb' := of_decide_eq_true hb
  have h4 : ((b.toNat : Int) - 48) % 256 = (b.toNat : Int) - 48 := by omega
  rw [h4, wrap_id (n := 10 * (a : Int)) (by omega) (by omega), wrap_id (by omega) (by omega)]
  unfold dstep
  omega
/-- A number read so far: below a bound that leaves room for what is left. -/
def Room (a : Nat) (n : Nat) : Prop := ∃ M, a < M ∧ M * 10 ^ n ≤ 1000000000000000000
theorem Room.lt {a n : Nat} (h : Room a (n + 1)) : a < 100000000000000000 := by
  obtain ⟨M, h1, h2⟩ := h
  have : 1 ≤ 10 ^ n := Nat.one_le_pow _ _ (by decide)
  rw [Nat.pow_succ] at h2
  obtain ⟨x, hx⟩ : ∃ x, x = 10 ^ n := ⟨_, rfl⟩
  rw [← hx] at this h2
  have : M * 10 ≤ M * (x * 10) := Nat.mul_le_mul_left M (by omega)
  omega
theorem Room.next {a n : Nat} {b : UInt8} (h : Room a (n + 1)) (hb : isD b = true) : Room (dstep a b) n := by
  have hb' := of_decide_eq_true hb
  obtain ⟨M, h1, h2⟩ := h
  refine ⟨M * 10, by unfold dstep; omega, ?_⟩
  rw [Nat.pow_succ, Nat.mul_comm (10 ^ n) 10, ← Nat.mul_assoc] at h2
  exact h2
theorem Room.first {n : Nat} (h : n ≤ 18) : Room 0 n := by
  have h2 : 10 ^ n ≤ 10 ^ 18 := Nat.pow_le_pow_right (by decide) h
  have h3 : (10 : Nat) ^ 18 = 1000000000000000000 := by simp
  rw [h3] at h2
  exact ⟨1, by decide, by rw [Nat.one_mul]; exact h2⟩
theorem bad_digit {b : UInt8} (hb : isD b = false) : (b.toNat : Int) < 48 ∨ (b.toNat : Int) > 57 := by
  have := of_decide_eq_false hb
  omega
theorem pnum_l0 (n : Int) : ∀ (l pre : List UInt8) (a : Nat), n = ((pre ++ l).length : Nat) → (pre ++ l).length ≤ 18 → Room a l.length → Ev (fun k => part_number.l0 k (tx (pre ++ l)) (a : Nat) n (pre.length : Nat)) (numI a l)
  | [], pre, a, hn, h18, ha => by
    rw [numI_nil]
    refine Ev.succ (Ev.const (x := some ((a : Int), true)) rfl |>.congr fun k => ?_)
    rw [part_number.l0, if_neg (by simp at hn; omega)]
  | b :: l, pre, a, hn, h18, ha => by
    have hl : (pre ++ b :: l).length = pre.length + 1 + l.length := by simp; omega
    cases hb : isD b with
    | true =>
      have hb' := of_decide_eq_true hb
      have ih := pnum_l0 n l (pre ++ [b]) (dstep a b) (by rw [hn]; simp) (by simpa using h18) (ha.next hb)
      rw [numI_ok hb]
      refine Ev.succ (ih.congr fun k => ?_)
      rw [part_number.l0, if_pos (by omega), if_pos (by omega), if_pos (by rw [tx_size]; omega), bt_tx pre b l rfl, if_neg (by omega), if_neg (by omega), num_step b a ha.lt hb, wrap_id (n := (pre.length : Nat) + 1) (by omega) (by omega)]
      simp
    | false =>
      rw [numI_bad hb]
      refine Ev.succ (Ev.const (x := some (0, false)) rfl |>.congr fun k => ?_)
      rw [part_number.l0, if_pos (by omega), if_pos (by omega), if_pos (by rw [tx_size]; omega), bt_tx pre b l rfl]
      by_cases h1 : (b.toNat : Int) < 48
      · rw [if_pos h1]
      · rw [if_neg h1, if_pos ((bad_digit hb).resolve_left h1)]
theorem pnum (l : List UInt8) : Ev (fun k => part_number.f k (tx l)) (numR l) := by
  unfold numR
  by_cases h0 : l = []
  · subst h0
    exact number_nil
  · by_cases h18 : l.length ≤ 18
    · rw [if_pos ⟨h0, h18⟩]
      refine Ev.succ ((pnum_l0 (l.length : Nat) l [] 0 (by simp) (by simpa using h18) (Room.first h18)).congr fun k => ?_)
      rw [part_number.f, tx_toList, if_neg h0, decide_eq_false (by rw [tx_size]; omega), part_number.j0, if_neg (by decide)]
      rfl
    · rw [if_neg (fun h => h18 h.2)]
      refine Ev.succ (Ev.const (x := some (0, false)) rfl |>.congr fun k => ?_)
      rw [part_number.f, tx_toList, if_neg h0, decide_eq_true (by rw [tx_size]; omega), part_number.j0, if_pos rfl]
theorem rnum_l0 : ∀ (l pre : List UInt8) (a : Nat), (pre ++ l).length ≤ 18 → Room a l.length → Ev (fun k => ambryref23_number.l0 k (tx (pre ++ l)) (a : Nat) (pre.length : Nat)) (numI a l)
  | [], pre, a, h18, ha => by
    rw [numI_nil]
    refine Ev.succ (Ev.const (x := some ((a : Int), true)) rfl |>.congr fun k => ?_)
    rw [ambryref23_number.l0, if_neg (by rw [tx_size]; simp)]
  | b :: l, pre, a, h18, ha => by
    have hl : (pre ++ b :: l).length = pre.length + 1 + l.length := by simp; omega
    cases hb : isD b with
    | true =>
      have hb' := of_decide_eq_true hb
      have ih := rnum_l0 l (pre ++ [b]) (dstep a b) (by simpa using h18) (ha.next hb)
      rw [numI_ok hb]
      refine Ev.succ (ih.congr fun k => ?_)
      rw [ambryref23_number.l0, if_pos (by rw [tx_size]; omega), if_pos (by omega), bt_tx pre b l rfl, if_neg (by omega), if_neg (by omega), num_step b a ha.lt hb, wrap_id (n := (pre.length : Nat) + 1) (by omega) (by omega)]
      simp
    | false =>
      rw [numI_bad hb]
      refine Ev.succ (Ev.const (x := some (0, false)) rfl |>.congr fun k => ?_)
      rw [ambryref23_number.l0, if_pos (by rw [tx_size]; omega), if_pos (by omega), bt_tx pre b l rfl]
      by_cases h1 : (b.toNat : Int) < 48
      · rw [if_pos h1]
      · rw [if_neg h1, if_pos ((bad_digit hb).resolve_left h1)]
theorem rnum (l : List UInt8) : Ev (fun k => ambryref23_number.f k (tx l) 18) (numR l) := by
  unfold numR
  by_cases h0 : l = []
  · subst h0
    refine Ev.succ (Ev.const (x := some (0, false)) rfl |>.congr fun k => ?_)
    rw [ambryref23_number.f, tx_toList, if_pos rfl, ambryref23_number.j0, if_pos rfl]
  · by_cases h18 : l.length ≤ 18
    · rw [if_pos ⟨h0, h18⟩]
      refine Ev.succ ((rnum_l0 l [] 0 (by simpa using h18) (Room.first h18)).congr fun k => ?_)
      rw [ambryref23_number.f, tx_toList, if_neg h0, decide_eq_false (by rw [tx_size]; omega), ambryref23_number.j0, if_neg (by decide)]
      rfl
    · rw [if_neg (fun h => h18 h.2)]
      refine Ev.succ (Ev.const (x := some (0, false)) rfl |>.congr fun k => ?_)
      rw [ambryref23_number.f, tx_toList, if_neg h0, decide_eq_true (by rw [tx_size]; omega), ambryref23_number.j0, if_pos rfl]
end Go.Proofs.YtacgmcmnnogbbaaGreatDoor.PX

namespace Go.Proofs.YtacgmcmnnogbbaaGreatDoor.PX
open Go.RowKit Go.Proofs.YtacgmcmnnogbbaaGreatDoorW.PrintWords Go.Proofs.YtacgmcmnnogbbaaGreatDoorW.PrintLast Go.Proofs.YtacgmcmnnogbbaaGreatDoorW.PrintMore
set_option linter.unusedVariables false
set_option linter.unusedSimpArgs false
/-- What a span's reading is, behind its test. -/
def spanQ (A B : List UInt8) (size : Int) (bad : Bool) : Int × Int × Bool :=
  if bad = true then (0, 0, false) else if A = [] then (mx (wrap64 (size - (numR B).1)) 0, size, true) else if B = [] then ((numR A).1, size, true) else if (numR B).1 ≥ size then ((numR A).1, size, true) else ((numR A).1, wrap64 ((numR B).1 + 1), true)
def badQ (A B : List UInt8) (ok : Bool) : Bool :=
  if ok = true then (if A = [] then (if B = [] then true else if (numR B).2 = true then (if (numR A).2 = true then decide ((numR A).1 > (numR B).1) else false) else true)
    else (if (numR A).2 = true then (if B = [] then (if (numR B).2 = true then decide ((numR A).1 > (numR B).1) else false) else (if (numR B).2 = true then decide ((numR A).1 > (numR B).1) else true)) else true)) else true
theorem pspan_at (l A B : List UInt8) (ok : Bool) (size : Int) (hcut : strings_Cut.f (tx l) ⟨#[45]⟩ = some (tx A, tx B, ok)) : Ev (fun k => part_span.f k (tx l) size) (spanQ A B size (badQ A B ok)) := by
  have hj (bad : Bool) : Ev (fun k => part_span.j0 k size (tx A) (tx B) (numR A).1 (numR B).1 bad) (spanQ A B size bad) := by
    refine Ev.succ (Ev.const (x := some (spanQ A B size bad)) rfl |>.congr fun k => ?_)
    rw [part_span.j0, tx_toList, tx_toList, spanQ]
    cases bad <;> by_cases h1 : A = [] <;> by_cases h2 : B = [] <;> by_cases h3 : (numR B).1 ≥ size <;> simp [h1, h2, h3]
  refine (Ev.bind (g := fun k (x : Int × Bool) => (part_number.f k (tx B)).bind fun y => if ok = true then (if A = [] then (if B = [] then (part_span.j0 k size (tx A) (tx B) x.1 y.1 true) else (if y.2 = true then (if x.2 = true then (part_span.j0 k size (tx A) (tx B) x.1 y.1 (decide (x.1 > y.1))) else (part_span.j0 k size (tx A) (tx B) x.1 y.1 false)) else (part_span.j0 k size (tx A) (tx B) x.1 y.1 true)))
    else (if x.2 = true then (if B = [] then (if y.2 = true then (part_span.j0 k size (tx A) (tx B) x.1 y.1 (decide (x.1 > y.1))) else (part_span.j0 k size (tx A) (tx B) x.1 y.1 false)) else (if y.2 = true then (part_span.j0 k size (tx A) (tx B) x.1 y.1 (decide (x.1 > y.1))) else (part_span.j0 k size (tx A) (tx B) x.1 y.1 true))) else (part_span.j0 k size (tx A) (tx B) x.1 y.1 true))) else (part_span.j0 k size (tx A) (tx B) x.1 y.1 true)) (pnum A)
    (Ev.bind (g := fun k (y : Int × Bool) => if ok = true then (if A = [] then (if B = [] then (part_span.j0 k size (tx A) (tx B) (numR A).1 y.1 true) else (if y.2 = true then (if (numR A).2 = true then (part_span.j0 k size (tx A) (tx B) (numR A).1 y.1 (decide ((numR A).1 > y.1))) else (part_span.j0 k size (tx A) (tx B) (numR A).1 y.1 false)) else (part_span.j0 k size (tx A) (tx B) (numR A).1 y.1 true)))
    else (if (numR A).2 = true then (if B = [] then (if y.2 = true then (part_span.j0 k size (tx A) (tx B) (numR A).1 y.1 (decide ((numR A).1 > y.1))) else (part_span.j0 k size (tx A) (tx B) (numR A).1 y.1 false)) else (if y.2 = true then (part_span.j0 k size (tx A) (tx B) (numR A).1 y.1 (decide ((numR A).1 > y.1))) else (part_span.j0 k size (tx A) (tx B) (numR A).1 y.1 true))) else (part_span.j0 k size (tx A) (tx B) (numR A).1 y.1 true))) else (part_span.j0 k size (tx A) (tx B) (numR A).1 y.1 true)) (pnum B) ((hj (badQ A B ok)).congr fun k => ?_))).congr fun k => ?_
  · unfold badQ
    cases ok <;> by_cases h1 : A = [] <;> by_cases h2 : B = [] <;> cases h3 : (numR A).2 <;> cases h4 : (numR B).2 <;> simp [h1, h2, h3, h4]
  · rw [part_span.f, hcut, Option.bind_some]
    simp only [tx_toList]
theorem rspan_l0 (X Y : List UInt8) (size : Int) (hX : ∀ b ∈ X, b ≠ 45) : ∀ (r pre : List UInt8), pre ++ r = X → (X ++ 45 :: Y).length ≤ 140737488351232 → ∀ res, Ev (fun k => ambryref23_span.l0 k (tx (X ++ 45 :: Y)) size (X.length : Nat) (X.length + 1 : Nat)) res →
    Ev (fun k => ambryref23_span.l0 k (tx (X ++ 45 :: Y)) size (-1) (pre.length : Nat)) res
  | [], pre, hp, hs, res, h => by
    rw [List.append_nil] at hp
    subst hp
    have hl : (pre ++ 45 :: Y).length = pre.length + 1 + Y.length := by simp; omega
    refine Ev.succ (Ev.succ (h.congr fun k => ?_))
    rw [ambryref23_span.l0, if_pos (by rw [tx_size]; omega), ambryref23_span.j1, if_pos (by decide), if_pos (by omega), if_pos (by rw [tx_size]; omega), bt_tx pre 45 Y rfl, if_pos (by decide), wrap_id (n := (pre.length : Nat) + 1) (by omega) (by omega)]
    rfl
  | b :: r, pre, hp, hs, res, h => by
    have ih := rspan_l0 X Y size hX r (pre ++ [b]) (by simpa using hp) hs res h
    have hl : (X ++ 45 :: Y).length = pre.length + 1 + r.length + 1 + Y.length := by rw [← hp]; simp; omega
    have hb : ¬ ((b.toNat : Int) = 45) := fun e => hX b (by rw [← hp]; simp) (u8_inj (b := 45) e)
    have hbt : bt (tx (X ++ 45 :: Y)) (pre.length : Nat) = b.toNat := by
      rw [← hp, List.append_assoc]
      exact bt_tx pre b (r ++ 45 :: Y) rfl
    refine Ev.succ (Ev.succ (ih.congr fun k => ?_))
    rw [ambryref23_span.l0, if_pos (by rw [tx_size]; omega), ambryref23_span.j1, if_pos (by decide), if_pos (by omega), if_pos (by rw [tx_size]; omega), hbt, if_neg hb, wrap_id (n := (pre.length : Nat) + 1) (by omega) (by omega)]
    simp
def spanR (X Y : List UInt8) (size : Int) : Int × Int × Bool × Bool :=
  if X = [] then (mx (wrap64 (size - (numR Y).1)) 0, size, (decide ((numR Y).1 > 0) && decide (size > 0)), (numR Y).2) else if Y = [] then ((numR X).1, size, decide ((numR X).1 < size), (numR X).2)
    else ((numR X).1, wrap64 ((mn (numR Y).1 (wrap64 (size - 1))) + 1), decide ((numR X).1 < size), ((numR X).2 && (numR Y).2 && decide ((numR X).1 ≤ (numR Y).1)))
theorem rspan_at (X Y : List UInt8) (size : Int) (hX : ∀ b ∈ X, b ≠ 45) (hs : (X ++ 45 :: Y).length ≤ 140737488351232) : Ev (fun k => ambryref23_span.f k (tx (X ++ 45 :: Y)) size) (spanR X Y size) := by
  have hl : (X ++ 45 :: Y).length = X.length + 1 + Y.length := by simp; omega
  have e1 : (tx (X ++ 45 :: Y)).extract 0 ((X.length : Nat) : Int).toNat = tx X := by
    have := ex_tx [] X (45 :: Y) (i := 0) (j := ((X.length : Nat) : Int).toNat) rfl (by simp)
    simpa using this
  have e2 : (tx (X ++ 45 :: Y)).extract ((X.length + 1 : Nat) : Int).toNat (tx (X ++ 45 :: Y)).size = tx Y := by
    rw [tx_size]
    have := ex_tx' (X ++ [45]) Y (i := ((X.length + 1 : Nat) : Int).toNat) (j := (X ++ 45 :: Y).length) (by simp) (by simp; omega)
    simpa using this
  have w1 : wrap64 (((X.length : Nat) : Int) + 1) = ((X.length + 1 : Nat) : Int) := by rw [wrap_id (by omega) (by omega)]; rfl
  have w2 : wrap64 (((tx (X ++ 45 :: Y)).size : Int) - 1) = ((X.length + Y.length : Nat) : Int) := by rw [tx_size, wrap_id (by omega) (by omega)]; omega
  have fin (x8 : Int) (x7 : Int) (h7 : x7 = (X.length : Nat)) : Ev (fun k => ambryref23_span.j1 k (tx (X ++ 45 :: Y)) size x7 x8 false) (spanR X Y size) := by
    subst h7
    refine Ev.succ ((Ev.bind (g := fun k (x : Int × Bool) => (ambryref23_number.f k (tx Y) 18).bind fun bt104 => (if ((X.length : Nat) : Int) = 0 then (if bt104.1 > 0 then (some (mx (wrap64 (size - bt104.1)) 0, size, decide (size > 0), bt104.2)) else (some (mx (wrap64 (size - bt104.1)) 0, size, false, bt104.2))) else (if ((X.length : Nat) : Int) = ((X.length + Y.length : Nat) : Int) then (some (x.1, size, decide (x.1 < size), x.2)) else (if x.2 = true then (if bt104.2 = true then (some (x.1, wrap64 ((mn bt104.1 (wrap64 (size - 1))) + 1), decide (x.1 < size), decide (x.1 ≤ bt104.1))) else (some (x.1, wrap64 ((mn bt104.1 (wrap64 (size - 1))) + 1), decide (x.1 < size), false))) else (some (x.1, wrap64 ((mn bt104.1 (wrap64 (size - 1))) + 1), decide (x.1 < size), false)))))) (rnum X)
      ((rnum Y).bind (g := fun _ (bt104 : Int × Bool) => (if ((X.length : Nat) : Int) = 0 then (if bt104.1 > 0 then (some (mx (wrap64 (size - bt104.1)) 0, size, decide (size > 0), bt104.2)) else (some (mx (wrap64 (size - bt104.1)) 0, size, false, bt104.2))) else (if ((X.length : Nat) : Int) = ((X.length + Y.length : Nat) : Int) then (some ((numR X).1, size, decide ((numR X).1 < size), (numR X).2)) else (if (numR X).2 = true then (if bt104.2 = true then (some ((numR X).1, wrap64 ((mn bt104.1 (wrap64 (size - 1))) + 1), decide ((numR X).1 < size), decide ((numR X).1 ≤ bt104.1))) else (some ((numR X).1, wrap64 ((mn bt104.1 (wrap64 (size - 1))) + 1), decide ((numR X).1 < size), false))) else (some ((numR X).1, wrap64 ((mn bt104.1 (wrap64 (size - 1))) + 1), decide ((numR X).1 < size), false)))))) (Ev.const ?_))).congr fun k => ?_)
    · unfold spanR
      by_cases h1 : X = []
      · rw [if_pos (by rw [h1]; rfl), if_pos h1]
        by_cases h2 : (numR Y).1 > 0
        · rw [if_pos h2]; simp [h2]
        · rw [if_neg h2]; simp [h2]
      · have hx : 0 < X.length := List.length_pos_iff.2 h1
        rw [if_neg (by omega), if_neg h1]
        by_cases h2 : Y = []
        · rw [if_pos (by rw [h2]; rfl), if_pos h2]
        · have hy : 0 < Y.length := List.length_pos_iff.2 h2
          rw [if_neg (by omega), if_neg h2]
          cases h3 : (numR X).2 <;> cases h4 : (numR Y).2 <;> simp
    · rw [ambryref23_span.j1, if_neg (by decide), if_neg (by omega), if_pos (by omega), if_pos (by rw [tx_size]; omega), e1, w1]
      congr 1
      funext x
      rw [if_pos (by omega), if_pos (by rw [tx_size]; omega), e2, w2]
  refine (rspan_l0 X Y size hX X [] rfl hs _ ?_).congr fun k => rfl
  by_cases hy : Y = []
  · subst hy
    refine Ev.succ ((fin (X.length + 1 : Nat) _ rfl).congr fun k => ?_)
    rw [ambryref23_span.l0, if_neg (by rw [tx_size]; simp)]
  · have hy' : 0 < Y.length := List.length_pos_iff.2 hy
    refine Ev.succ ((fin (X.length + 1 : Nat) _ rfl).congr fun k => ?_)
    rw [ambryref23_span.l0, if_pos (by rw [tx_size]; omega), decide_eq_false (by omega)]
theorem rspan_none (l : List UInt8) (size : Int) (hs : l.length ≤ 140737488351232) (hX : ∀ b ∈ l, b ≠ 45) : ∀ (r pre : List UInt8), pre ++ r = l → Ev (fun k => ambryref23_span.l0 k (tx l) size (-1) (pre.length : Nat)) (0, 0, false, false)
  | [], pre, hp => by
    rw [List.append_nil] at hp
    subst hp
    refine Ev.succ (Ev.succ (Ev.const (x := some (0, 0, false, false)) rfl |>.congr fun k => ?_))
    rw [ambryref23_span.l0, if_neg (by rw [tx_size]; omega), ambryref23_span.j1, if_neg (by decide), if_pos (by decide)]
  | b :: r, pre, hp => by
    have ih := rspan_none l size hs hX r (pre ++ [b]) (by simpa using hp)
    have hl : l.length = pre.length + 1 + r.length := by rw [← hp]; simp; omega
    have hb : ¬ ((b.toNat : Int) = 45) := fun e => hX b (by rw [← hp]; simp) (u8_inj (b := 45) e)
    have hbt : bt (tx l) (pre.length : Nat) = b.toNat := by rw [← hp]; exact bt_tx pre b r rfl
    refine Ev.succ (Ev.succ (ih.congr fun k => ?_))
    rw [ambryref23_span.l0, if_pos (by rw [tx_size]; omega), ambryref23_span.j1, if_pos (by decide), if_pos (by omega), if_pos (by rw [tx_size]; omega), hbt, if_neg hb, wrap_id (n := (pre.length : Nat) + 1) (by omega) (by omega)]
    simp
/-- What both tell of a span. -/
def SpanRel (p : Int × Int × Bool) (q : Int × Int × Bool × Bool) : Prop := p.2.2 = q.2.2.2 ∧ (p.2.2 = true → q.2.2.1 = decide (p.1 < p.2.1) ∧ (p.1 < p.2.1 → q.1 = p.1 ∧ q.2.1 = p.2.1))
theorem split_first (c : UInt8) : ∀ l : List UInt8, (∀ b ∈ l, b ≠ c) ∨ ∃ X Y, l = X ++ c :: Y ∧ ∀ b ∈ X, b ≠ c
  | [] => Or.inl (by simp)
  | x :: l => by
    by_cases h : x = c
    · exact Or.inr ⟨[], l, by rw [h]; rfl, by simp⟩
    · rcases split_first c l with hl | ⟨X, Y, hl, hX⟩
      · refine Or.inl fun b hb => ?_
        rcases List.mem_cons.1 hb with rfl | hb
        · exact h
        · exact hl b hb
      · refine Or.inr ⟨x :: X, Y, by rw [hl]; rfl, fun b hb => ?_⟩
        rcases List.mem_cons.1 hb with rfl | hb
        · exact h
        · exact hX b hb
theorem span_rel (l : List UInt8) (hl : l.length ≤ 900) (size : Int) (h0 : 0 ≤ size) (h1 : size ≤ 9223372036854775807) : ∃ p q, Ev (fun k => part_span.f k (tx l) size) p ∧ Ev (fun k => ambryref23_span.f k (tx l) size) q ∧ SpanRel p q := by
  rcases split_first 45 l with hn | ⟨X, Y, rfl, hX⟩
  · refine ⟨_, _, pspan_at l l [] false size ?_, rspan_none l size (by omega) hn l [] rfl, ?_⟩
    · have hi := index_none 45 l hn
      have e : strings_Cut.f (tx l) ⟨#[45]⟩ = if (tx l).size ≤ 9223372036854775806 then (if Lib.indexByte l 45 < 0 then some (tx l, ⟨#[]⟩, false) else some ((tx l).extract 0 (Lib.indexByte l 45).toNat, (tx l).extract ((Lib.indexByte l 45).toNat + 1) (tx l).size, true)) else none := rfl
      rw [e, hi, if_pos (by rw [tx_size]; omega), if_pos (by decide)]
      rfl
    · exact ⟨rfl, fun h => by simp [spanQ, badQ] at h⟩
  · refine ⟨_, _, pspan_at _ X Y true size (cut_at X Y hX (by simp at hl; omega)), rspan_at X Y size hX (by omega), ?_⟩
    have rX := numR_range X
    have rY := numR_range Y
    unfold SpanRel spanQ spanR badQ
    have w1 : wrap64 (size - (numR Y).1) = size - (numR Y).1 := wrap_id (by omega) (by omega)
    have w2 : wrap64 (size - 1) = size - 1 := wrap_id (by omega) (by omega)
    have w3 : wrap64 ((numR Y).1 + 1) = (numR Y).1 + 1 := wrap_id (by omega) (by omega)
    have w4 : wrap64 ((mn (numR Y).1 (size - 1)) + 1) = (mn (numR Y).1 (size - 1)) + 1 := wrap_id (by unfold mn; split <;> omega) (by unfold mn; split <;> omega)
    rw [w1, w2, w3, w4]
    by_cases a1 : X = []
    · subst a1
      rw [numR_nil] at *
      by_cases a2 : Y = []
      · subst a2
        rw [numR_nil]
        simp
      · cases a3 : (numR Y).2
        · simp [a2]
        · simp only [a2, if_true, if_false, Bool.false_eq_true, true_and, forall_const, decide_eq_true_iff]
          have hm : mx (size - (numR Y).1) 0 < size ↔ ((numR Y).1 > 0 ∧ size > 0) := by unfold mx; split <;> omega
          refine ⟨?_, fun _ => trivial⟩
          by_cases b1 : (numR Y).1 > 0 <;> by_cases b2 : size > 0 <;> simp [b1, b2, hm]
    · cases a3 : (numR X).2
      · by_cases a2 : Y = []
        · simp [a1, a2]
        · simp [a1, a2]
      · by_cases a2 : Y = []
        · subst a2
          simp [a1, numR_nil]
        · cases a4 : (numR Y).2
          · simp [a1, a2]
          · by_cases b1 : (numR X).1 > (numR Y).1
            · have : ¬ (numR X).1 ≤ (numR Y).1 := by omega
              simp [a1, a2, b1, this]
            · have b1' : (numR X).1 ≤ (numR Y).1 := by omega
              by_cases b2 : (numR Y).1 ≥ size
              · have hm : mn (numR Y).1 (size - 1) = size - 1 := by unfold mn; split <;> omega
                simp [a1, a2, b1, b1', b2, hm]
              · have hm : mn (numR Y).1 (size - 1) = (numR Y).1 := by unfold mn; split <;> omega
                have h5 : (numR X).1 < size := by omega
                have h6 : (numR X).1 < (numR Y).1 + 1 := by omega
                simp [a1, a2, b1, b1', b2, hm, h5, h6]
theorem piece (rest U : List UInt8) (PS : List ByteArray) (size : Int) (fr i : Nat) (hs : rest.length ≤ 300) (hU : U.length ≤ 300) (h0 : 0 ≤ size) (h1 : size ≤ 9223372036854775807) (hf : fr ≤ i) (hi : i ≤ rest.length) (hex : (tx rest).extract fr i = tx U)
    (cont : ∀ (out : List S56) (n : Nat), n ≤ 10 → out.length ≤ n → ∃ r, Ev (fun k => part_Parse.go k size PS out n) r ∧ Ev (fun k => ambryref23_Spans.l0 k size (tx rest) out n (i + 1 : Nat) (i + 1 : Nat)) r)
    (out : List S56) (n : Nat) (hn : n ≤ 10) (ho : out.length ≤ n) : ∃ r, Ev (fun k => part_Parse.go k size (tx U :: PS) out n) r ∧ Ev (fun k => ambryref23_Spans.j2 k size (tx rest) out n fr i false) r := by
  have hT := trimB_len U
  have tp := trim_prog U (by omega)
  have tr := trim_ref U (by omega)
  have wi : wrap64 ((i : Int) + 1) = ((i + 1 : Nat) : Int) := by rw [wrap_id (by omega) (by omega)]; rfl
  have wn : wrap64 ((n : Int) + 1) = ((n + 1 : Nat) : Int) := by rw [wrap_id (by omega) (by omega)]; rfl
  by_cases ht : trimB U = []
  · obtain ⟨r, c1, c2⟩ := cont out n hn ho
    refine ⟨r, c1.congr fun k => ?_, Ev.succ ((Ev.bind (g := fun k (t : ByteArray) => (if t.toList = ([] : List UInt8) then (ambryref23_Spans.l0 k size (tx rest) out n (wrap64 ((i : Int) + 1)) (wrap64 ((i : Int) + 1))) else ((ambryref23_span.f k t size).bind fun bt103 => (if bt103.2.2.2 = true then (ambryref23_Spans.j3 k size (tx rest) out (wrap64 ((n : Int) + 1)) (wrap64 ((i : Int) + 1)) i bt103.2.2.1 (decide ((wrap64 ((n : Int) + 1)) > 10)) bt103.1 bt103.2.1) else (ambryref23_Spans.j3 k size (tx rest) out (wrap64 ((n : Int) + 1)) (wrap64 ((i : Int) + 1)) i bt103.2.2.1 true bt103.1 bt103.2.1))))) tr (c2.congr fun k => ?_)).congr fun k => ?_)⟩
    · rw [part_Parse.go, tp, Option.bind_some, tx_toList, if_pos ht]
    · rw [tx_toList, if_pos ht, wi]
    · rw [ambryref23_Spans.j2, if_neg (by decide), if_pos (by omega), if_pos (by omega), if_pos (by rw [tx_size]; omega)]
      rw [show ((fr : Nat) : Int).toNat = fr by omega, show ((i : Nat) : Int).toNat = i by omega, hex]
  · obtain ⟨p, q, hp, hq, hrel⟩ := span_rel (trimB U) (by omega) size h0 h1
    have goP (r : List S56 × Int) (h : Ev (fun k => if p.2.2 = false then some ([], 121) else if (n : Int) + 1 > 10 then some ([], 121) else if p.1 < p.2.1 then part_Parse.go k size PS (out ++ [⟨p.1, p.2.1⟩]) ((n : Int) + 1) else part_Parse.go k size PS out ((n : Int) + 1)) r) : Ev (fun k => part_Parse.go k size (tx U :: PS) out n) r := by
      refine (Ev.bind (g := fun k (x : Int × Int × Bool) => if x.2.2 = false then some ([], 121) else if (n : Int) + 1 > 10 then some ([], 121) else if x.1 < x.2.1 then part_Parse.go k size PS (out ++ [⟨x.1, x.2.1⟩]) ((n : Int) + 1) else part_Parse.go k size PS out ((n : Int) + 1)) hp h).congr fun k => ?_
      rw [part_Parse.go, tp, Option.bind_some, tx_toList, if_neg ht]
    have goR (r : List S56 × Int) (h : Ev (fun k => if q.2.2.2 = true then (ambryref23_Spans.j3 k size (tx rest) out ((n + 1 : Nat) : Int) ((i + 1 : Nat) : Int) i q.2.2.1 (decide (((n + 1 : Nat) : Int) > 10)) q.1 q.2.1) else (ambryref23_Spans.j3 k size (tx rest) out ((n + 1 : Nat) : Int) ((i + 1 : Nat) : Int) i q.2.2.1 true q.1 q.2.1)) r) : Ev (fun k => ambryref23_Spans.j2 k size (tx rest) out n fr i false) r := by
      refine Ev.succ ((Ev.bind (g := fun k (t : ByteArray) => (if t.toList = ([] : List UInt8) then (ambryref23_Spans.l0 k size (tx rest) out n (wrap64 ((i : Int) + 1)) (wrap64 ((i : Int) + 1))) else ((ambryref23_span.f k t size).bind fun bt103 => (if bt103.2.2.2 = true then (ambryref23_Spans.j3 k size (tx rest) out (wrap64 ((n : Int) + 1)) (wrap64 ((i : Int) + 1)) i bt103.2.2.1 (decide ((wrap64 ((n : Int) + 1)) > 10)) bt103.1 bt103.2.1) else (ambryref23_Spans.j3 k size (tx rest) out (wrap64 ((n : Int) + 1)) (wrap64 ((i : Int) + 1)) i bt103.2.2.1 true bt103.1 bt103.2.1))))) tr ((Ev.bind (g := fun k (bt103 : Int × Int × Bool × Bool) => if bt103.2.2.2 = true then (ambryref23_Spans.j3 k size (tx rest) out ((n + 1 : Nat) : Int) ((i + 1 : Nat) : Int) i bt103.2.2.1 (decide (((n + 1 : Nat) : Int) > 10)) bt103.1 bt103.2.1) else (ambryref23_Spans.j3 k size (tx rest) out ((n + 1 : Nat) : Int) ((i + 1 : Nat) : Int) i bt103.2.2.1 true bt103.1 bt103.2.1)) hq h).congr fun k => ?_)).congr fun k => ?_)
      · rw [tx_toList, if_neg ht, wi, wn]
      · rw [ambryref23_Spans.j2, if_neg (by decide), if_pos (by omega), if_pos (by omega), if_pos (by rw [tx_size]; omega)]
        rw [show ((fr : Nat) : Int).toNat = fr by omega, show ((i : Nat) : Int).toNat = i by omega, hex]
    obtain ⟨r1, r2⟩ := hrel
    cases hok : p.2.2 with
    | false =>
      rw [hok] at r1
      refine ⟨([], 121), goP _ (Ev.const rfl |>.congr fun k => if_pos hok), goR _ (Ev.succ (Ev.const (x := some ([], 121)) rfl |>.congr fun k => ?_))⟩
      rw [if_neg (by rw [← r1]; decide), ambryref23_Spans.j3, if_pos rfl]
    | true =>
      rw [hok] at r1
      obtain ⟨r3, r4⟩ := r2 hok
      by_cases h10 : n = 10
      · refine ⟨([], 121), goP _ (Ev.const rfl |>.congr fun k => ?_), goR _ (Ev.succ (Ev.const (x := some ([], 121)) rfl |>.congr fun k => ?_))⟩
        · rw [if_neg (by rw [hok]; decide), if_pos (by omega)]
        · rw [if_pos r1.symm, decide_eq_true (by omega), ambryref23_Spans.j3, if_pos rfl]
      · by_cases hm : p.1 < p.2.1
        · obtain ⟨e1, e2⟩ := r4 hm
          obtain ⟨r, c1, c2⟩ := cont (out ++ [⟨p.1, p.2.1⟩]) (n + 1) (by omega) (by simp; omega)
          refine ⟨r, goP _ (c1.congr fun k => ?_), goR _ (Ev.succ (c2.congr fun k => ?_))⟩
          · rw [if_neg (by rw [hok]; decide), if_neg (by omega), if_pos hm]
            rfl
          · rw [if_pos r1.symm, decide_eq_false (by omega), ambryref23_Spans.j3, if_neg (by decide), r3, if_pos (decide_eq_true hm), if_pos (by omega), e1, e2, wi]
        · obtain ⟨r, c1, c2⟩ := cont out (n + 1) (by omega) (by omega)
          refine ⟨r, goP _ (c1.congr fun k => ?_), goR _ (Ev.succ (c2.congr fun k => ?_))⟩
          · rw [if_neg (by rw [hok]; decide), if_neg (by omega), if_neg hm]
            rfl
          · rw [if_pos r1.symm, decide_eq_false (by omega), ambryref23_Spans.j3, if_neg (by decide), r3, if_neg (by simpa using hm), wi]
theorem spans_loop (rest : List UInt8) (size : Int) (hs : rest.length ≤ 300) (h0 : 0 ≤ size) (h1 : size ≤ 9223372036854775807) : ∀ (V D U : List UInt8), rest = D ++ U ++ V → (∀ (p : List UInt8) (ps : List (List UInt8)), cutsL 44 V = p :: ps → ∀ (out : List S56) (n : Nat), n ≤ 10 → out.length ≤ n →
    ∃ r, Ev (fun k => part_Parse.go k size (((U ++ p) :: ps).map tx) out n) r ∧ Ev (fun k => ambryref23_Spans.l0 k size (tx rest) out n (D.length : Nat) (D.length + U.length : Nat)) r)
  | [], D, U, hr, p, ps, hc, out, n, hn, ho => by
    obtain ⟨rfl, rfl⟩ : p = [] ∧ ps = [] := by
      simp [cutsL] at hc; exact hc
    rw [List.append_nil] at hr
    have hl : rest.length = D.length + U.length := by rw [hr]; simp
    obtain ⟨r, c1, c2⟩ := piece rest U [] size D.length (D.length + U.length) hs (by omega) h0 h1 (by omega) (by omega) (by rw [hr]; exact ex_tx' D U rfl rfl) (fun out n hn ho => by
      refine ⟨if n = 0 then ([], 121) else (out, 0), Ev.const (x := part_Parse.go 0 size [] out n) ?_ |>.congr fun k => ?_, Ev.succ (Ev.const rfl |>.congr fun k => ?_)⟩
      · rw [part_Parse.go]
        by_cases h : n = 0
        · rw [if_pos (by omega), if_pos h]
        · rw [if_neg (by omega), if_neg h]
      · rw [part_Parse.go, part_Parse.go]
      · rw [ambryref23_Spans.l0, if_neg (by rw [tx_size]; omega)]
        by_cases h : n = 0
        · rw [if_pos (by omega), if_pos h]
        · rw [if_neg (by omega), if_neg h]) out n hn ho
    refine ⟨r, by simpa using c1, Ev.succ (c2.congr fun k => ?_)⟩
    rw [ambryref23_Spans.l0, if_pos (by rw [tx_size]; omega), if_neg (by rw [tx_size]; omega)]
  | c :: V, D, U, hr, p, ps, hc, out, n, hn, ho => by
    have hl : rest.length = D.length + U.length + 1 + V.length := by rw [hr]; simp; omega
    have hbt : bt (tx rest) ((D.length + U.length : Nat) : Int) = c.toNat := by
      rw [hr]; exact bt_tx (D ++ U) c V (by simp)
    have enter (k : Nat) (b : Bool) (hb : ((c.toNat : Int) != 44) = b) : ambryref23_Spans.l0 (k + 1) size (tx rest) out n (D.length : Nat) (D.length + U.length : Nat) = ambryref23_Spans.j2 k size (tx rest) out n (D.length : Nat) (D.length + U.length : Nat) b := by
      rw [ambryref23_Spans.l0, if_pos (by rw [tx_size]; omega), if_pos (by rw [tx_size]; omega), if_pos (by omega), hbt, hb]
    rw [cutsL_cons] at hc
    by_cases h44 : c = 44
    · subst h44
      rw [if_pos (by decide)] at hc
      obtain ⟨rfl, rfl⟩ := List.cons.inj hc
      obtain ⟨p', ps', hc'⟩ : ∃ p' ps', cutsL 44 V = p' :: ps' := List.exists_cons_of_ne_nil (cutsL_ne 44 V)
      have ih := spans_loop rest size hs h0 h1 V (D ++ U ++ [44]) [] (by rw [hr]; simp) p' ps' hc'
      obtain ⟨r, c1, c2⟩ := piece rest U ((cutsL 44 V).map tx) size D.length (D.length + U.length) hs (by omega) h0 h1 (by omega) (by omega) (by rw [hr]; exact ex_tx D U (44 :: V) rfl rfl) (fun out n hn ho => by
        obtain ⟨r, c1, c2⟩ := ih out n hn ho
        refine ⟨r, ?_, c2.congr fun k => ?_⟩
        · rw [hc']; exact c1
        · congr 1 <;> simp <;> omega) out n hn ho
      refine ⟨r, by simpa using c1, Ev.succ (c2.congr fun k => enter k false (by decide))⟩
    · rw [if_neg (by simpa using h44)] at hc
      obtain ⟨p', ps', hc'⟩ : ∃ p' ps', cutsL 44 V = p' :: ps' := List.exists_cons_of_ne_nil (cutsL_ne 44 V)
      rw [hc'] at hc
      obtain ⟨rfl, rfl⟩ := List.cons.inj hc
      obtain ⟨r, c1, c2⟩ := spans_loop rest size hs h0 h1 V D (U ++ [c]) (by rw [hr]; simp) p' ps' hc' out n hn ho
      have hne : ((c.toNat : Int) != 44) = true := by
        rw [bne_iff_ne]; exact fun e => h44 (u8_inj (b := 44) e)
      refine ⟨r, by simpa using c1, Ev.succ (Ev.succ (c2.congr fun k => ?_))⟩
      rw [enter (k + 1) true hne, ambryref23_Spans.j2, if_pos rfl, wrap_id (n := ((D.length + U.length : Nat) : Int) + 1) (by omega) (by omega)]
      congr 1
      simp; omega
/-- part.Parse and the document's Spans tell the same. -/
theorem parse_spans (l : List UInt8) (size : Int) (hl : l.length ≤ 300) (h0 : -9223372036854775808 ≤ size) (h1 : size ≤ 9223372036854775807) : ∃ r, Ev (fun k => part_Parse.f k (tx l) size) r ∧ Ev (fun k => ambryref23_Spans.f k (tx l) size) r := by
  by_cases h6 : l.length < 6
  · refine ⟨([], 121), Ev.const (x := some ([], 121)) rfl |>.congr fun k => ?_, Ev.succ (Ev.const (x := some ([], 121)) rfl |>.congr fun k => ?_)⟩
    · rw [part_Parse.f, if_pos (by rw [tx_size]; exact h6)]
    · rw [ambryref23_Spans.f, if_pos (by rw [tx_size]; omega), ambryref23_Spans.j0, if_pos rfl]
  · obtain ⟨u, rest, rfl, hu⟩ : ∃ u rest, l = u ++ rest ∧ u.length = 6 := ⟨l.take 6, l.drop 6, (List.take_append_drop _ _).symm, by simp; omega⟩
    have hlen : (u ++ rest).length = 6 + rest.length := by simp [hu]
    have e1 : (tx (u ++ rest)).extract 0 6 = tx u := by
      have := ex_tx [] u rest (i := 0) (j := 6) rfl (by simp [hu])
      simpa using this
    have e2 : (tx (u ++ rest)).extract 6 (tx (u ++ rest)).size = tx rest := by
      rw [tx_size]
      exact ex_tx' u rest hu.symm (by simp)
    have sh := same_head u [98, 121, 116, 101, 115, 61] (by omega)
    have sr := same_ref u [98, 121, 116, 101, 115, 61] (by omega)
    have m0 : 0 ≤ mx size 0 := by unfold mx; split <;> omega
    have m1 : mx size 0 ≤ 9223372036854775807 := by unfold mx; split <;> omega
    obtain ⟨p', ps', hc'⟩ : ∃ p' ps', cutsL 44 rest = p' :: ps' := List.exists_cons_of_ne_nil (cutsL_ne 44 rest)
    obtain ⟨r, c1, c2⟩ := spans_loop rest (mx size 0) (by omega) m0 m1 rest [] [] rfl p' ps' hc' [] 0 (by decide) (by decide)
    cases hb : decide (u.map lowb = ([98, 121, 116, 101, 115, 61] : List UInt8).map lowb) with
    | false =>
      rw [hb] at sh sr
      refine ⟨([], 121), (Ev.bind (g := fun k (b : Bool) => if b = false then some ([], 121) else if (tx (u ++ rest)).size ≤ 9223372036854775806 then part_Parse.go k (mx size 0) (cuts 44 (tx rest)) [] 0 else none) sh (Ev.const (x := some ([], 121)) rfl |>.congr fun k => if_pos rfl)).congr fun k => ?_, Ev.succ (Ev.const (x := some ([], 121)) rfl |>.congr fun k => ?_)⟩
      · rw [part_Parse.f, if_neg (by rw [tx_size]; omega), e1, e2]; rfl
      · rw [ambryref23_Spans.f, if_neg (by rw [tx_size]; omega), if_pos (by decide), if_pos (by rw [tx_size]; omega), e1]
        show ((ambryref10_Same.f (tx u) (tx [98, 121, 116, 101, 115, 61])).bind fun t101 => (ambryref23_Spans.j0 (k + 1) (tx (u ++ rest)) (mx size 0) (!t101))) = _
        rw [sr, Option.bind_some, ambryref23_Spans.j0, if_pos (by decide)]
    | true =>
      rw [hb] at sh sr
      refine ⟨r, (Ev.bind (g := fun k (b : Bool) => if b = false then some ([], 121) else if (tx (u ++ rest)).size ≤ 9223372036854775806 then part_Parse.go k (mx size 0) (cuts 44 (tx rest)) [] 0 else none) sh (c1.congr fun k => ?_)).congr fun k => ?_, Ev.succ (c2.congr fun k => ?_)⟩
      · rw [if_neg (by decide), if_pos (by rw [tx_size]; omega)]
        show _ = part_Parse.go k (mx size 0) ((([] ++ p') :: ps').map tx) [] 0
        rw [List.nil_append, ← hc']
        rfl
      · rw [part_Parse.f, if_neg (by rw [tx_size]; omega), e1, e2]; rfl
      · rw [ambryref23_Spans.f, if_neg (by rw [tx_size]; omega), if_pos (by decide), if_pos (by rw [tx_size]; omega), e1]
        show ((ambryref10_Same.f (tx u) (tx [98, 121, 116, 101, 115, 61])).bind fun t101 => (ambryref23_Spans.j0 (k + 1) (tx (u ++ rest)) (mx size 0) (!t101))) = _
        rw [sr, Option.bind_some, ambryref23_Spans.j0, if_neg (by decide), if_pos (by rw [tx_size]; omega), e2]
        rfl
end Go.Proofs.YtacgmcmnnogbbaaGreatDoor.PX

