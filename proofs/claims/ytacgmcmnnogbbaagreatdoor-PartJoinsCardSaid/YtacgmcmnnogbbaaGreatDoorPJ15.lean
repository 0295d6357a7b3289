import Derived.Test.YtacgmcmnnogbbaaGreatDoorPJ8
import Derived.Test.YtacgmcmnnogbbaaGreatDoorPJ13
import Derived.Test.YtacgmcmnnogbbaaGreatDoorPJ14
namespace Go.Proofs.YtacgmcmnnogbbaaGreatDoor.PX
open Go.RowKit Go.Proofs.YtacgmcmnnogbbaaGreatDoorW.PrintWords Go.Proofs.YtacgmcmnnogbbaaGreatDoorW.PrintLast Go.Proofs.YtacgmcmnnogbbaaGreatDoorW.PrintMore
set_option linter.unusedVariables false
set_option linter.unusedSimpArgs false
theorem bool_iff {a b : Bool} (h : a = true ↔ b = true) : (a == b) = true := by
  cases a <;> cases b <;> simp_all
theorem joins_l1 (p : Int) (hp : 0 ≤ p ∧ p ≤ 255) (x8 : Bool) (j : List S56) (hj : Good j) (hL : j.length ≤ 1000000) (h8 : x8 = true ↔ Cov j p) :
    ∀ (r pre : List S56) (x12 : Bool), pre ++ r = j → (x12 = true ↔ Cov pre p) → Ev (fun k => ambrylaw25_PartJoins.l1 k p x8 j x12 (pre.length : Int)) true := by
  have hwp : wrap64 p = p := wrap_id (by omega) (by omega)
  intro r
  induction r with
  | nil =>
    intro pre x12 e h12
    refine Ev.succ (Ev.const (x := some true) rfl |>.congr fun k => ?_)
    rw [List.append_nil] at e
    subst e
    rw [ambrylaw25_PartJoins.l1, if_neg (by omega), bool_iff (h8.trans h12.symm)]
  | cons x r ih =>
    intro pre x12 e h12
    have hpl : pre.length + 1 + r.length = j.length := by rw [← e]; simp; omega
    have hrd : rd_T56 j (pre.length : Int) = x := by rw [← e]; exact rd_at _ _ _ rfl
    have hx : x.f0 < x.f1 := hj.1 x (by rw [← e]; simp)
    have hw : wrap64 ((pre.length : Int) + 1) = ((pre ++ [x]).length : Int) := by rw [wrap_id (by omega) (by omega)]; simp
    have next (b : Bool) (hb : b = true ↔ Cov (pre ++ [x]) p) := ih (pre ++ [x]) b (by rw [← e]; simp) hb
    have tail : Ev (fun k => if x12 = true then (ambrylaw25_PartJoins.l1 k p x8 j true (wrap64 ((pre.length : Int) + 1))) else (if (wrap64 p) ≥ x.f0 then (ambrylaw25_PartJoins.l1 k p x8 j (decide ((wrap64 p) < x.f1)) (wrap64 ((pre.length : Int) + 1))) else (ambrylaw25_PartJoins.l1 k p x8 j false (wrap64 ((pre.length : Int) + 1))))) true := by
      rw [hw, hwp]
      by_cases h1 : x12 = true
      · refine (next true ?_).congr fun k => if_pos h1
        exact ⟨fun _ => Cov.append.2 (Or.inl (h12.1 h1)), fun _ => rfl⟩
      · have hn : ¬ Cov pre p := fun h => h1 (h12.2 h)
        by_cases h2 : p ≥ x.f0
        · refine (next (decide (p < x.f1)) ?_).congr fun k => (if_neg h1).trans (if_pos h2)
          rw [Cov.append, Cov.one, decide_eq_true_iff]
          exact ⟨fun h => Or.inr ⟨h2, h⟩, fun h => (h.resolve_left hn).2⟩
        · refine (next false ?_).congr fun k => (if_neg h1).trans (if_neg h2)
          rw [Cov.append, Cov.one]
          exact ⟨fun h => absurd h (by decide), fun h => absurd (h.resolve_left hn).1 h2⟩
    rcases List.eq_nil_or_concat pre with rfl | ⟨o, z, ho⟩
    · refine Ev.succ (tail.congr fun k => ?_)
      rw [ambrylaw25_PartJoins.l1, if_pos (by omega), if_pos (by omega), hrd, if_neg (by omega), if_neg (by simp)]
    · rw [List.concat_eq_append] at ho
      subst ho
      have hol : (o ++ [z]).length = o.length + 1 := by simp
      have hw1 : wrap64 (((o ++ [z]).length : Int) - 1) = (o.length : Int) := by rw [wrap_id (by omega) (by omega)]; omega
      have hrz : rd_T56 j (o.length : Int) = z := by rw [← e, List.append_assoc]; exact rd_at _ _ _ rfl
      have hzx : z.f1 < x.f0 := by
        have := hj.2
        rw [← e] at this
        exact (List.pairwise_append.1 this).2.2 z (by simp) x (by simp)
      refine Ev.succ (tail.congr fun k => ?_)
      rw [ambrylaw25_PartJoins.l1, if_pos (by omega), if_pos (by omega), hrd, if_neg (by omega), if_pos (by omega), hw1, if_pos (by omega), if_pos (by omega), hrz, if_neg (by omega)]
theorem joins_l0 (x0 x1 : List Int) (p : Int) (hp : 0 ≤ p ∧ p ≤ 255) (h20 : x0.length ≤ 20) (h01 : x0.length ≤ x1.length) (h0 : ∀ a ∈ x0, 0 ≤ a ∧ a ≤ 255) (h1 : ∀ a ∈ x1, 0 ≤ a ∧ a ≤ 255) :
    ∀ (n : Nat) (s : List S56) (x8 : Bool), s.length + n = x0.length → (x8 = true ↔ Cov s p) → Ev (fun k => ambrylaw25_PartJoins.l0 k x0 x1 p s x8 (s.length : Int)) true := by
  have hwp : wrap64 p = p := wrap_id (by omega) (by omega)
  intro n
  induction n with
  | zero =>
    intro s x8 hn h8
    obtain ⟨j, hj, ⟨hg, hjs⟩, hc⟩ := join20 s (by omega)
    have hjl : j.length ≤ 1000000 := by omega
    refine Ev.succ ((Ev.bind (g := fun k t => ambrylaw25_PartJoins.l1 k p x8 t false 0) hj ?_).congr fun k => ?_)
    · exact joins_l1 p hp x8 j hg hjl (h8.trans (hc p).symm) j [] false rfl ⟨fun h => absurd h (by decide), fun h => absurd h Cov.nil⟩
    · rw [ambrylaw25_PartJoins.l0, if_neg (by omega)]
  | succ n ih =>
    intro s x8 hn h8
    have r0 : 0 ≤ rd x0 (s.length : Int) ∧ rd x0 (s.length : Int) ≤ 255 := by
      unfold rd
      rw [show ((s.length : Int)).toNat = s.length by omega, List.getD_eq_getElem?_getD, List.getElem?_eq_getElem (by omega)]
      exact h0 _ (List.getElem_mem _)
    have r1 : 0 ≤ rd x1 (s.length : Int) ∧ rd x1 (s.length : Int) ≤ 255 := by
      unfold rd
      rw [show ((s.length : Int)).toNat = s.length by omega, List.getD_eq_getElem?_getD, List.getElem?_eq_getElem (by omega)]
      exact h1 _ (List.getElem_mem _)
    obtain ⟨a, ha⟩ : ∃ a, a = rd x0 (s.length : Int) := ⟨_, rfl⟩
    obtain ⟨d, hd⟩ : ∃ d, d = Int.tmod (rd x1 (s.length : Int)) 20 := ⟨_, rfl⟩
    have hd0 : 0 ≤ d ∧ d < 20 := by
      rw [hd]
      exact ⟨Int.tmod_nonneg _ r1.1, Int.tmod_lt_of_pos _ (by decide)⟩
    rw [← ha] at r0
    have hwa : wrap64 a = a := wrap_id (by omega) (by omega)
    have hwd : wrap64 d = d := wrap_id (by omega) (by omega)
    have hwad : wrap64 (a + d) = a + d := wrap_id (by omega) (by omega)
    have hw : wrap64 ((s.length : Int) + 1) = ((s ++ [(⟨a, a + d⟩ : S56)]).length : Int) := by rw [wrap_id (by omega) (by omega)]; simp
    have next (b : Bool) (hb : b = true ↔ Cov (s ++ [(⟨a, a + d⟩ : S56)]) p) := ih (s ++ [(⟨a, a + d⟩ : S56)]) b (by simp; omega) hb
    have start (k : Nat) : ambrylaw25_PartJoins.l0 (k + 1) x0 x1 p s x8 (s.length : Int) = if x8 = true then (ambrylaw25_PartJoins.l0 k x0 x1 p (s ++ [(⟨a, a + d⟩ : S56)]) true ((s ++ [(⟨a, a + d⟩ : S56)]).length : Int))
        else (if p ≥ a then (ambrylaw25_PartJoins.l0 k x0 x1 p (s ++ [(⟨a, a + d⟩ : S56)]) (decide (p < a + d)) ((s ++ [(⟨a, a + d⟩ : S56)]).length : Int)) else (ambrylaw25_PartJoins.l0 k x0 x1 p (s ++ [(⟨a, a + d⟩ : S56)]) false ((s ++ [(⟨a, a + d⟩ : S56)]).length : Int))) := by
      rw [ambrylaw25_PartJoins.l0, if_pos (by omega), if_pos (by omega), if_pos (by omega), if_pos (by omega), Option.bind_some, ← ha, ← hd, hwa, hwd, hwad, hw, hwp]
    by_cases h1 : x8 = true
    · refine Ev.succ ((next true ?_).congr fun k => (start k).trans (if_pos h1))
      exact ⟨fun _ => Cov.append.2 (Or.inl (h8.1 h1)), fun _ => rfl⟩
    · have hn : ¬ Cov s p := fun h => h1 (h8.2 h)
      by_cases h2 : p ≥ a
      · refine Ev.succ ((next (decide (p < a + d)) ?_).congr fun k => (start k).trans ((if_neg h1).trans (if_pos h2)))
        rw [Cov.append, Cov.one, decide_eq_true_iff]
        exact ⟨fun h => Or.inr ⟨h2, h⟩, fun h => (h.resolve_left hn).2⟩
      · refine Ev.succ ((next false ?_).congr fun k => (start k).trans ((if_neg h1).trans (if_neg h2)))
        rw [Cov.append, Cov.one]
        exact ⟨fun h => absurd h (by decide), fun h => absurd (h.resolve_left hn).1 h2⟩
theorem joins_true (l0 l1 : List Int) (p : Int) (hp : 0 ≤ p ∧ p ≤ 255) (h0 : ∀ a ∈ l0, 0 ≤ a ∧ a ≤ 255) (h1 : ∀ a ∈ l1, 0 ≤ a ∧ a ≤ 255) : Ev (fun k => ambrylaw25_PartJoins.f k l0 l1 p) true := by
  have hk := known_true
  unfold ambrylaw25_PartJoins.f
  refine Ev.bind (g := fun k (t101 : Bool) => if t101 = true then (if (l0.length : Int) > 20 then (ambrylaw25_PartJoins.j0 k l0 l1 p true) else (ambrylaw25_PartJoins.j0 k l0 l1 p (decide ((l1.length : Int) < (l0.length : Int))))) else (some false)) hk ?_
  simp only [if_true]
  have out : Ev (fun k => ambrylaw25_PartJoins.j0 k l0 l1 p true) true := Ev.succ (Ev.const (x := some true) rfl |>.congr fun k => by rw [ambrylaw25_PartJoins.j0, if_pos rfl])
  by_cases h20 : (l0.length : Int) > 20
  · simp only [if_pos h20]
    exact out
  · simp only [if_neg h20]
    by_cases h01 : (l1.length : Int) < (l0.length : Int)
    · simp only [decide_eq_true h01]
      exact out
    · simp only [decide_eq_false h01]
      refine Ev.succ ((joins_l0 l0 l1 p hp (by omega) (by omega) h0 h1 l0.length [] false (by simp) ⟨fun h => absurd h (by decide), fun h => absurd h Cov.nil⟩).congr fun k => ?_)
      rw [ambrylaw25_PartJoins.j0, if_neg (by decide)]
      rfl
theorem partJoins_pure : ambrylaw25_PartJoins.Pure := by
  intro l0 l1 a2 _ _ h0 _ _ h1 h2
  exact (joins_true l0 l1 a2 (u8_range h2) (fun a ha => u8_range (h0 a ha)) (fun a ha => u8_range (h1 a ha))).some_
end Go.Proofs.YtacgmcmnnogbbaaGreatDoor.PX

