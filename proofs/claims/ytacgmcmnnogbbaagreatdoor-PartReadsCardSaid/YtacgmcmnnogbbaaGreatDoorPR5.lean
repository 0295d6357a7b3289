import Derived.Lib.SliceRun
import Derived.Test.YtacgmcmnnogbbaaGreatDoorPR2
namespace Go.Proofs.YtacgmcmnnogbbaaGreatDoor.PX
open Go.RowKit Go.Proofs.YtacgmcmnnogbbaaGreatDoorW.PrintWords Go.Proofs.YtacgmcmnnogbbaaGreatDoorW.PrintLast Go.Proofs.YtacgmcmnnogbbaaGreatDoorW.PrintMore
set_option linter.unusedVariables false
set_option linter.unusedSimpArgs false
def slices_Clone_Field.f (l0 : List S50) : Option (List S50) := if l0.length < 4398046511104 then some l0 else none
set_option maxHeartbeats 2000000 in
set_option maxRecDepth 100000 in
theorem slices_Clone_Field.calls (A0 : Option Addr) (c0 : Nat) (l0 : List S50) (r : List S50) (w : World) (hr0 : Kd.C k50 w A0 l0.length l0) (hc0 : l0.length ≤ c0) (h : slices_Clone_Field.f l0 = some r) :
    Calls Tryz.prog 75 #[.slice A0 l0.length c0] w fun e w' => ∃ v0_ : Value, e = .returned (v0_) ∧ Kd.R k50 50 w' w.heap.size (fun _ => True) v0_ r ∧ Below w.heap.size w w' := by
  have q22 : ∀ (w : World) (a : Option Addr) (n c n' c' : Nat), (binOp .eql 32 (.slice a n c) (.slice none n' c')).run Tryz.prog w = .ok (.bool a.isNone) w := fun w a n c n' c' => Lib.run_eql_slice_nil w _ _ a n c n' c' Tryz.underlying32
  have HR0 := Aside0.mk hr0
  clear hr0
  unfold slices_Clone_Field.f at h
  by_cases hl0 : ¬ l0.length < 4398046511104
  · rw [if_neg hl0] at h; cases h
  have hl : l0.length < 4398046511104 := Decidable.not_not.mp hl0
  clear hl0
  rw [if_pos hl] at h
  obtain rfl := Option.some.inj h
  clear h
  have HL := Aside0.mk hl
  clear hl hc0
  rcases A0 with _ | ad
  · have hz : l0.length = 0 := by
      rcases Nat.eq_zero_or_pos l0.length with h0 | h0
      · exact h0
      · obtain ⟨ad, h, _⟩ := HR0.out.2.2 h0
        cases h
    have hz2 := List.eq_nil_of_length_eq_zero hz
    clear hz
    subst hz2
    clear HR0 HL
    go_enter Tryz.func75, Tryz.ntmps75
    go_wp2
    go_ret
    exact ⟨_, rfl, Kd.R_nil _ _ _ _ _, Below.refl _ _⟩
  · go_enter Tryz.func75, Tryz.ntmps75
    go_wp2_with (at_builtin; refine Kd.R_append_rows k50 (Rr := Kd.K k50 (w.alloc (.cells #[] 50))) (w0 := w) w.heap.size rfl _ _ 32 50 (.agg #[.string ⟨#[]⟩, .string ⟨#[]⟩]) 32 rfl Tryz.underlying32 info50 rfl (by decide) (by decide) (.slice (some ⟨w.heap.size, 0, none⟩) 0 0) [] l0 (some ad) l0.length c0 (fun _ => True) (fun k => k < w.heap.size) rfl rfl ?qc1 ?qc2 ?qc3 ?qc4 ?qc5 ?qc6 ?qc7 ?qc8 ?_)
    case qc1 => exact ⟨fun _ _ => trivial, [], World.ownsRow_made w #[] 0 (Nat.le_refl _) (Nat.zero_le _) (by simp), by simp, fun j p h => by simp at h⟩
    case qc2 => exact Kd.C_alloc HR0.out _
    case qc3 => intro x cs hx; obtain rfl := k50_open hx; exact k50_mkM _ _ _ _
    case qc4 => intro k hk; refine ⟨trivial, fun he => ?_⟩; have : k = w.heap.size := by simpa [Value.ownBlock] using he
                omega
    case qc5 => intro k hk; trivial
    case qc6 => exact (Below.refl _ w).alloc (Nat.le_refl _) _
    case qc7 => simp
    case qc8 => have := HL.out; simp; omega
    intro v1 w1 ho hb hg hat
    have HO := Aside0.mk ho
    have HB := Aside0.mk hb
    clear ho hb hg hat
    go_wp2
    go_ret
    exact ⟨_, rfl, HO.out, HB.out⟩
def slices_Clone_Span.f (l0 : List S56) : Option (List S56) := if l0.length < 8796093022208 then some l0 else none
set_option maxHeartbeats 2000000 in
set_option maxRecDepth 100000 in
theorem slices_Clone_Span.calls (A0 : Option Addr) (c0 : Nat) (l0 : List S56) (r : List S56) (w : World) (hr0 : Kd.C k56 w A0 l0.length l0) (hc0 : l0.length ≤ c0) (h : slices_Clone_Span.f l0 = some r) :
    Calls Tryz.prog 35 #[.slice A0 l0.length c0] w fun e w' => ∃ v0_ : Value, e = .returned (v0_) ∧ Kd.R k56 56 w' w.heap.size (fun _ => True) v0_ r ∧ Below w.heap.size w w' := by
  have q22 : ∀ (w : World) (a : Option Addr) (n c n' c' : Nat), (binOp .eql 22 (.slice a n c) (.slice none n' c')).run Tryz.prog w = .ok (.bool a.isNone) w := fun w a n c n' c' => Lib.run_eql_slice_nil w _ _ a n c n' c' Tryz.underlying22
  have HR0 := Aside0.mk hr0
  clear hr0
  unfold slices_Clone_Span.f at h
  by_cases hl0 : ¬ l0.length < 8796093022208
  · rw [if_neg hl0] at h; cases h
  have hl : l0.length < 8796093022208 := Decidable.not_not.mp hl0
  clear hl0
  rw [if_pos hl] at h
  obtain rfl := Option.some.inj h
  clear h
  have HL := Aside0.mk hl
  clear hl hc0
  rcases A0 with _ | ad
  · have hz : l0.length = 0 := by
      rcases Nat.eq_zero_or_pos l0.length with h0 | h0
      · exact h0
      · obtain ⟨ad, h, _⟩ := HR0.out.2.2 h0
        cases h
    have hz2 := List.eq_nil_of_length_eq_zero hz
    clear hz
    subst hz2
    clear HR0 HL
    go_enter Tryz.func35, Tryz.ntmps35
    go_wp2
    go_ret
    exact ⟨_, rfl, Kd.R_nil _ _ _ _ _, Below.refl _ _⟩
  · go_enter Tryz.func35, Tryz.ntmps35
    go_wp2_with (at_builtin; refine Kd.R_append_rows k56 (Rr := Kd.K k56 (w.alloc (.cells #[] 56))) (w0 := w) w.heap.size rfl _ _ 22 56 (.agg #[.int .i64 0, .int .i64 0]) 16 rfl Tryz.underlying22 info56 rfl (by decide) (by decide) (.slice (some ⟨w.heap.size, 0, none⟩) 0 0) [] l0 (some ad) l0.length c0 (fun _ => True) (fun k => k < w.heap.size) rfl rfl ?qc1 ?qc2 ?qc3 ?qc4 ?qc5 ?qc6 ?qc7 ?qc8 ?_)
    case qc1 => exact ⟨fun _ _ => trivial, [], World.ownsRow_made w #[] 0 (Nat.le_refl _) (Nat.zero_le _) (by simp), by simp, fun j p h => by simp at h⟩
    case qc2 => exact Kd.C_alloc HR0.out _
    case qc3 => intro x cs hx; obtain rfl := k56_open hx; exact k56_mkM _ _ _ _
    case qc4 => intro k hk; refine ⟨trivial, fun he => ?_⟩; have : k = w.heap.size := by simpa [Value.ownBlock] using he
                omega
    case qc5 => intro k hk; trivial
    case qc6 => exact (Below.refl _ w).alloc (Nat.le_refl _) _
    case qc7 => simp
    case qc8 => have := HL.out; simp; omega
    intro v1 w1 ho hb hg hat
    have HO := Aside0.mk ho
    have HB := Aside0.mk hb
    clear ho hb hg hat
    go_wp2
    go_ret
    exact ⟨_, rfl, HO.out, HB.out⟩
def slices_Clone_byte.f (l0 : List Int) : Option (List Int) := if l0.length < 140737488355328 then some l0 else none
set_option maxHeartbeats 2000000 in
set_option maxRecDepth 100000 in
theorem slices_Clone_byte.calls (A0 : Option Addr) (c0 : Nat) (l0 : List Int) (r : List Int) (w : World) (hr0 : Kd.C (Kd.int .u8) w A0 l0.length l0) (hc0 : l0.length ≤ c0) (h : slices_Clone_byte.f l0 = some r) :
    Calls Tryz.prog 49 #[.slice A0 l0.length c0] w fun e w' => ∃ v0_ : Value, e = .returned (v0_) ∧ Kd.R (Kd.int .u8) 5 w' w.heap.size (fun _ => True) v0_ r ∧ Below w.heap.size w w' := by
  have q22 : ∀ (w : World) (a : Option Addr) (n c n' c' : Nat), (binOp .eql 33 (.slice a n c) (.slice none n' c')).run Tryz.prog w = .ok (.bool a.isNone) w := fun w a n c n' c' => Lib.run_eql_slice_nil w _ _ a n c n' c' Tryz.underlying33
  have HR0 := Aside0.mk hr0
  clear hr0
  unfold slices_Clone_byte.f at h
  by_cases hl0 : ¬ l0.length < 140737488355328
  · rw [if_neg hl0] at h; cases h
  have hl : l0.length < 140737488355328 := Decidable.not_not.mp hl0
  clear hl0
  rw [if_pos hl] at h
  obtain rfl := Option.some.inj h
  clear h
  have HL := Aside0.mk hl
  clear hl hc0
  rcases A0 with _ | ad
  · have hz : l0.length = 0 := by
      rcases Nat.eq_zero_or_pos l0.length with h0 | h0
      · exact h0
      · obtain ⟨ad, h, _⟩ := HR0.out.2.2 h0
        cases h
    have hz2 := List.eq_nil_of_length_eq_zero hz
    clear hz
    subst hz2
    clear HR0 HL
    go_enter Tryz.func49, Tryz.ntmps49
    go_wp2
    go_ret
    exact ⟨_, rfl, Kd.R_nil _ _ _ _ _, Below.refl _ _⟩
  · go_enter Tryz.func49, Tryz.ntmps49
    go_wp2_with (at_builtin; refine Kd.R_append_rows (Kd.int .u8) (Rr := Kd.K (Kd.int .u8) (w.alloc (.cells #[] 5))) (w0 := w) w.heap.size rfl _ _ 33 5 (.int .u8 0) 1 rfl Tryz.underlying33 info5 rfl (by decide) (by decide) (.slice (some ⟨w.heap.size, 0, none⟩) 0 0) [] l0 (some ad) l0.length c0 (fun _ => True) (fun k => k < w.heap.size) rfl rfl ?qc1 ?qc2 ?qc3 ?qc4 ?qc5 ?qc6 ?qc7 ?qc8 ?_)
    case qc1 => exact ⟨fun _ _ => trivial, [], World.ownsRow_made w #[] 0 (Nat.le_refl _) (Nat.zero_le _) (by simp), by simp, fun j p h => by simp at h⟩
    case qc2 => exact Kd.C_alloc HR0.out _
    case qc3 => intro x cs hx; exact hx
    case qc4 => intro k hk; refine ⟨trivial, fun he => ?_⟩; have : k = w.heap.size := by simpa [Value.ownBlock] using he
                omega
    case qc5 => intro k hk; trivial
    case qc6 => exact (Below.refl _ w).alloc (Nat.le_refl _) _
    case qc7 => simp
    case qc8 => have := HL.out; simp; omega
    intro v1 w1 ho hb hg hat
    have HO := Aside0.mk ho
    have HB := Aside0.mk hb
    clear ho hb hg hat
    go_wp2
    go_ret
    exact ⟨_, rfl, HO.out, HB.out⟩
end Go.Proofs.YtacgmcmnnogbbaaGreatDoor.PX

namespace Go.Proofs.YtacgmcmnnogbbaaGreatDoor.PX
open Go.RowKit Go.Proofs.YtacgmcmnnogbbaaGreatDoorW.PrintWords Go.Proofs.YtacgmcmnnogbbaaGreatDoorW.PrintLast Go.Proofs.YtacgmcmnnogbbaaGreatDoorW.PrintMore
/-- i is the first place of l at which p holds, or -1. -/
def Found {α : Type} (p : α → Bool) (l : List α) (i : Int) : Prop :=
  (i = -1 ∧ ∀ x ∈ l, p x = false) ∨ ∃ (k : Nat) (x : α), i = k ∧ l[k]? = some x ∧ p x = true ∧ ∀ y ∈ l.take k, p y = false
/-- What a search hands back, and that nothing that was there has turned. -/
def FoundPost {α : Type} (p : α → Bool) (l : List α) (w : World) (e : Ending) (w' : World) : Prop := ∃ i : Int, e = .returned (.int .i64 i) ∧ Found p l i ∧ Below w.heap.size w w'
/-- The state of an in-place filter: k places looked at, i kept. -/
structure Kept_ {α : Type} (p : α → Bool) (l ys : List α) (i j : Nat) : Prop where
  len : ys.length = l.length
  ij : i < j
  jl : j ≤ l.length
  head : ys.take i = (l.take j).filter (fun x => !p x)
  tail : ys.drop j = l.drop j
theorem Kept_.start {α : Type} {p : α → Bool} {l : List α} {k : Nat} {x : α} (hx : l[k]? = some x) (hp : p x = true) (hall : ∀ y ∈ l.take k, p y = false) : Kept_ p l l k (k + 1) := by
  have hk : k < l.length := (List.getElem?_eq_some_iff.1 hx).1
  refine ⟨rfl, Nat.lt_succ_self _, hk, ?_, rfl⟩
  rw [List.take_add_one, hx, List.filter_append]
  have h1 : (l.take k).filter (fun x => !p x) = l.take k := List.filter_eq_self.2 (fun y hy => by rw [hall y hy]; rfl)
  rw [h1]
  simp [hp]
theorem Kept_.keep {α : Type} {p : α → Bool} {l ys : List α} {i j : Nat} (h : Kept_ p l ys i j) {x : α} (hx : l[j]? = some x) (hp : p x = false) : Kept_ p l (ys.set i x) (i + 1) (j + 1) := by
  have hj : j < l.length := (List.getElem?_eq_some_iff.1 hx).1
  have hi : i < ys.length := by have := h.len; have := h.ij; omega
  refine ⟨by rw [List.length_set, h.len], by have := h.ij; omega, hj, ?_, ?_⟩
  · rw [List.take_add_one, List.take_set_of_le (Nat.le_refl i), h.head, List.take_add_one (i := j), hx, List.filter_append]
    rw [List.getElem?_set_self hi]
    simp [hp]
  · rw [List.drop_set_of_lt (by have := h.ij; omega)]
    have := congrArg (List.drop 1) h.tail
    rwa [List.drop_drop, List.drop_drop] at this
theorem Kept_.skip {α : Type} {p : α → Bool} {l ys : List α} {i j : Nat} (h : Kept_ p l ys i j) {x : α} (hx : l[j]? = some x) (hp : p x = true) : Kept_ p l ys i (j + 1) := by
  have hj : j < l.length := (List.getElem?_eq_some_iff.1 hx).1
  refine ⟨h.len, by have := h.ij; omega, hj, ?_, ?_⟩
  · rw [h.head, List.take_add_one (i := j), hx, List.filter_append]
    simp [hp]
  · have := congrArg (List.drop 1) h.tail
    rwa [List.drop_drop, List.drop_drop] at this
theorem Kept_.at_ {α : Type} {p : α → Bool} {l ys : List α} {i j : Nat} (h : Kept_ p l ys i j) {x : α} (hx : ys[j]? = some x) : l[j]? = some x := by
  have h1 : (ys.drop j)[0]? = (l.drop j)[0]? := by rw [h.tail]
  simpa [List.getElem?_drop, hx] using h1.symm
theorem Kept_.done {α : Type} {p : α → Bool} {l ys : List α} {i : Nat} (h : Kept_ p l ys i l.length) : ys.take i = l.filter (fun x => !p x) := by
  rw [h.head, List.take_length]
theorem filter_none {α : Type} {p : α → Bool} {l : List α} (h : ∀ x ∈ l, p x = false) : l.filter (fun x => !p x) = l := List.filter_eq_self.2 (fun y hy => by rw [h y hy]; rfl)
theorem getD_mem {α : Type} (d : α) (l : List α) (j : Nat) (h : j < l.length) : l[j]? = some (l.getD j d) := by simp [List.getD, List.getElem?_eq_getElem h]
theorem grown_then {w w1 w2 : World} {row : Option Nat} (h : w.grownBy w1 row) (k : Below w1.heap.size w1 w2) : w.grownBy w2 row :=
  ⟨k.os.trans h.os, k.tape.trans h.tape, k.output.trans h.output, Nat.le_trans h.size k.size, fun i hi hr => (k.block i (Nat.lt_of_lt_of_le hi h.size)).trans (h.block i hi hr)⟩
theorem grown_row {w w1 w2 : World} {row : Option Nat} (h : w.grownBy w1 row) (k : w1.grownBy w2 row) : w.grownBy w2 row :=
  ⟨k.os.trans h.os, k.tape.trans h.tape, k.output.trans h.output, Nat.le_trans h.size k.size, fun i hi hr => (k.block i (Nat.lt_of_lt_of_le hi h.size) hr).trans (h.block i hi hr)⟩
theorem zeroCells_length (zero : Array Value) (n : Nat) : (Builtin.zeroCells zero n).toList.length = n * zero.size := by
  simp [Builtin.zeroCells]
/-- 'clear(s[i:])' of a row of the call's own: what is ahead of i stays. -/
theorem R_clear {P : Program} {α : Type} {d : Kd α} {e base n c c' i : Nat} {ok : Nat → Prop} {W : World} {g : Nat} {xs : List α} (t ty : TypeId) (z : Value)
    (ht : P.underlying t = some (.slice e)) (hv : ∀ w, (zeroValue e).run P w = .ok z w) (hz : z.cells.size = d.sz) (hz1 : ∀ u ∈ z.cells.toList, u.oneCell' = true)
    (h : d.R e W base ok (.slice (some ⟨g, 0, none⟩) n c) xs) (hi : i < n) :
    ∃ W', (Builtin.clear_ #[t] ty #[.slice (some ⟨g, i * d.sz, none⟩) (n - i) c']).run P W = .ok (.tuple #[]) W' ∧ d.R e W' base ok (.slice (some ⟨g, 0, none⟩) i c) (xs.take i) ∧ W.grownBy W' (some g) := by
  have hn : n = xs.length := (Kd.R_reads' h).1
  obtain ⟨h0, inner, ho, hr⟩ := h
  subst hn
  rcases ho.2 with ⟨hv', _⟩ | ⟨g', cap, cur, hv', hg, hh, hnc, hcm, hcs, htk⟩
  · cases hv'
  injection hv' with ha _ hc
  injection ha with ha
  injection ha with hgg
  subst hgg
  subst hc
  have hL := zeroCells_length z.cells (xs.length - i)
  rw [hz] at hL
  have hle : i * d.sz + (Builtin.zeroCells z.cells (xs.length - i)).toList.length ≤ cur.size := by
    rw [hL, hcs, ← Nat.add_mul]
    exact Nat.mul_le_mul_right _ (by omega)
  obtain ⟨cur', hh', hsz', hls⟩ := setCells_row (g := g) (Builtin.zeroCells z.cells (xs.length - i)).toList (i * d.sz) W cur hh hle
  have hone : ∀ u ∈ (Builtin.zeroCells z.cells (xs.length - i)).toList, u.oneCell' = true := by
    intro u hu
    simp only [Builtin.zeroCells, Array.mem_toList_iff] at hu
    obtain ⟨k, hk, rfl⟩ := Array.mem_map.1 hu
    rw [Array.mem_range] at hk
    have hpos : 0 < z.cells.size := by
      rcases Nat.eq_zero_or_pos z.cells.size with h0 | h0
      · rw [h0] at hk; omega
      · exact h0
    have hlt := Nat.mod_lt k hpos
    apply hz1
    rw [getElem!_pos z.cells _ hlt]
    simp only [Array.mem_toList_iff]
    exact Array.getElem_mem _
  have hst := run_storeCells_cells (P := P) g (i * d.sz) (Builtin.zeroCells z.cells (xs.length - i)).toList 0 W
    (by
      intro j hj
      rw [Nat.add_zero, blk_cell hh]
      have : i * d.sz + j < cur.size := by omega
      simp [Array.getElem?_eq_getElem this])
    (by intro j hj; exact blk_frozen hh _) hone
  rw [Nat.add_zero] at hst
  obtain ⟨m, hm⟩ : ∃ m, xs.length - i = m + 1 := ⟨xs.length - i - 1, by omega⟩
  have hti : (xs.take i).length = i := by rw [List.length_take]; omega
  have hlo : i * d.sz ≤ xs.length * d.sz := Nat.mul_le_mul_right _ (Nat.le_of_lt hi)
  have hil : inner.length = xs.length * d.sz := ho.1
  have hown : (W.setCells g (i * d.sz) (Builtin.zeroCells z.cells (xs.length - i)).toList).ownsRow base e d.sz (.slice (some ⟨g, 0, none⟩) i c) (xs.take i).length (inner.take (i * d.sz)) := by
    rw [hti]
    refine ⟨by rw [List.length_take, hil, Nat.min_eq_left hlo], .inr ⟨g, c, cur', rfl, hg, hh', by omega, hcm, by rw [hsz', hcs], ?_⟩⟩
    rw [hls, List.append_assoc, List.take_append_of_le_length, List.take_take, Nat.min_self, ← htk, List.take_take, Nat.min_eq_left hlo]
    rw [List.length_take, Array.length_toList, hcs]
    have : i * d.sz ≤ c * d.sz := Nat.mul_le_mul_right _ (by omega)
    omega
  refine ⟨W.setCells g (i * d.sz) (Builtin.zeroCells z.cells (xs.length - i)).toList, ?_, ⟨fun k hk => h0 k (by simpa [Value.ownBlock] using hk), inner.take (i * d.sz), hown, ?_⟩, ?_⟩
  · rw [hm] at hst ⊢
    simp [Builtin.clear_, run_underlying ht, hv, hst]
  · refine (Kd.reps_take hr (Nat.le_of_lt hi)).imp_ (fun p cs hp => d.M_move (fun k hk => ?_) (d.M_mono (fun k hk => ⟨hk.1, by simpa [Value.ownBlock] using hk.2⟩) hp))
    exact setCells_far _ _ k (fun he => hk.2 (by rw [he]; rfl))
  · obtain ⟨s1, s2, s3, s4⟩ := setCells_same g (Builtin.zeroCells z.cells (xs.length - i)).toList (i * d.sz) W
    exact ⟨s1, s2, s3, by rw [s4]; exact Nat.le_refl _, fun k hk hne => setCells_far _ _ k (fun he => hne (by rw [he]))⟩
end Go.Proofs.YtacgmcmnnogbbaaGreatDoor.PX

namespace Go.Proofs.YtacgmcmnnogbbaaGreatDoor.PX
open Go.RowKit Go.Proofs.YtacgmcmnnogbbaaGreatDoorW.PrintWords Go.Proofs.YtacgmcmnnogbbaaGreatDoorW.PrintLast Go.Proofs.YtacgmcmnnogbbaaGreatDoorW.PrintMore
set_option linter.unusedVariables false
set_option linter.unusedSimpArgs false
set_option maxHeartbeats 2000000 in
set_option maxRecDepth 100000 in
theorem slices_IndexFunc_Field.gen (g : Nat) (lb : Array Value) (p : S50 → Bool) (A0 : Option Addr) (c0 : Nat) (l0 : List S50) (w : World)
    (eg : ∀ args w, (callFunc g args).run Tryz.prog w = .ok (.enter g args) w) (hr0 : Kd.C k50 w A0 l0.length l0)
    (hp : ∀ W x, x ∈ l0 → Below w.heap.size w W → Calls Tryz.prog g (#[.agg #[.string x.f0, .string x.f1]] ++ lb) W fun e W' => e = .returned (.bool (p x)) ∧ Below W.heap.size W W') :
    Calls Tryz.prog 107 #[.slice A0 l0.length c0, .func (.func g) #[] lb] w (FoundPost p l0 w) := by
  have HR0 := Aside0.mk hr0
  have HP := Aside0.mk hp
  have hm := hr0.2.1
  clear hr0 hp
  have HB := Aside0.mk (Below.refl w.heap.size w)
  go_enter Tryz.func107, Tryz.ntmps107
  go_wp2
  go_loopg [8] l0.length (fun gg v8 W => ∃ j : Int, v8 = .int .i64 j ∧ Aside0 (0 ≤ j ∧ j ≤ l0.length ∧ (l0.length : Int) - j ≤ gg) ∧ Aside0 (∀ y ∈ l0.take j.toNat, p y = false) ∧ Aside0 (Below w.heap.size w W))
  case atStart => exact ⟨0, rfl, ⟨by omega⟩, ⟨by simp⟩, HB⟩
  case round =>
    obtain ⟨j, rfl, HG, HA, HB1⟩ := hrel
    clear HB
    have hg0 := HG.out.1
    have hg1 : j ≤ 9223372036854775807 := by have := HG.out.2.1; omega
    by_cases hlt : j < (l0.length : Int)
    · obtain ⟨ad, e1, hx0, hx1⟩ := at_T50 HR0.out j hg0 hlt
      cases e1
      replace hx0 := (HB1.out.cell (World.block_lt_of_cell? w _ hx0)).trans hx0
      replace hx1 := (HB1.out.cell (World.block_lt_of_cell? w _ hx1)).trans hx1
      have hget := getD_mem z50 l0 j.toNat (by omega)
      have hcall := HP.out _ (rd_T50 l0 j) (List.mem_of_getElem? hget) (by exact HB1.out)
      have HGet := Aside0.mk hget
      clear hget
      have hd : decide (j < (l0.length : Int)) = true := decide_eq_true hlt
      have p1 := eq_true hg0
      have q1 := eq_true hlt
      cases hq : p (rd_T50 l0 j) with
      | true =>
        have HQ := Aside0.mk hq
        rw [hq] at hcall
        clear hq
        go_wp2_with fail
        refine hcall.mono ?_
        clear hcall
        rintro e W' ⟨rfl, hb⟩
        have HBB := Aside0.mk hb
        clear hb
        go_wp2_with fail
        go_ret
        exact ⟨j, rfl, .inr ⟨j.toNat, _, by have := HG.out.1; omega, HGet.out, HQ.out, HA.out⟩, below_then HB1.out HB1.out.size HBB.out⟩
      | false =>
        have HQ := Aside0.mk hq
        rw [hq] at hcall
        clear hq
        go_wp2_with fail
        refine hcall.mono ?_
        clear hcall
        rintro e W' ⟨rfl, hb⟩
        have HBB := Aside0.mk hb
        clear hb
        go_wp2_with fail
        go_roundg (l0.length - (j.toNat + 1))
        case measure => have := HG.out; omega
        case rel => exact ⟨j + 1, by first | rfl | (go_num), ⟨by have := HG.out; omega⟩, ⟨fun y hy => by
            rw [show (j + 1).toNat = j.toNat + 1 by have := HG.out; omega, List.take_add_one, HGet.out] at hy
            rcases List.mem_append.1 hy with h | h
            · exact HA.out y h
            · simp at h; rw [h]; exact HQ.out⟩, ⟨below_then HB1.out HB1.out.size HBB.out⟩⟩
    · have hd : decide (j < (l0.length : Int)) = false := decide_eq_false hlt
      go_wp2
      go_ret
      exact ⟨-1, rfl, .inl ⟨rfl, fun x hx => HA.out x (by rw [List.take_of_length_le (by have := HG.out; omega)]; exact hx)⟩, HB1.out⟩
/-- What DeleteFunc leaves. -/
def DelPost_Field (base : Nat) (ok : Nat → Prop) (p : S50 → Bool) (l0 : List S50) (w0 w : World) (row : Option Nat) (e : Ending) (w' : World) : Prop :=
  ∃ v' : Value, e = .returned v' ∧ Kd.R k50 50 w' base ok v' (l0.filter fun x => !p x) ∧ Below base w0 w' ∧ w.grownBy w' row
set_option maxHeartbeats 4000000 in
set_option maxRecDepth 100000 in
theorem slices_DeleteFunc_Field.gen (g : Nat) (lb : Array Value) (p : S50 → Bool) (base : Nat) (ok : Nat → Prop) (A0 : Option Addr) (c0 : Nat) (l0 : List S50) (w0 w : World)
    (eg : ∀ args w, (callFunc g args).run Tryz.prog w = .ok (.enter g args) w) (ho : Kd.R k50 50 w base ok (.slice A0 l0.length c0) l0) (hB : Below base w0 w) (hbase : base ≤ w.heap.size)
    (hp : ∀ W x, x ∈ l0 → w.grownBy W (Value.slice A0 l0.length c0).ownBlock → Calls Tryz.prog g (#[.agg #[.string x.f0, .string x.f1]] ++ lb) W fun e W' => e = .returned (.bool (p x)) ∧ Below W.heap.size W W') :
    Calls Tryz.prog 77 #[.slice A0 l0.length c0, .func (.func g) #[] lb] w (DelPost_Field base ok p l0 w0 w (Value.slice A0 l0.length c0).ownBlock) := by
  have hC := (Kd.R_reads' ho).2.2
  have hix := slices_IndexFunc_Field.gen g lb p A0 c0 l0 w eg hC (fun W x hx hb => hp W x hx (grown_of_below hb _))
  have HIX := Aside0.mk hix
  have HO := Aside0.mk ho
  have HB := Aside0.mk hB
  have HBase := Aside0.mk hbase
  have HP := Aside0.mk hp
  have hn : l0.length ≤ 9223372036854775807 := hC.2.1
  clear hC hix ho hB hbase hp
  go_enter Tryz.func77, Tryz.ntmps77
  go_wp2_with (go_at_call 107; refine HIX.out.mono ?_; rintro e w1 ⟨i0, rfl, hf, hb⟩)
  · have hi : i0 = -1 := by have h := ‹(i0 == -1) = true›; simpa using h
    subst hi
    go_ret
    rcases hf with ⟨_, hall⟩ | ⟨k, x, hk, _⟩
    · exact ⟨_, rfl, by rw [filter_none hall]; exact Kd.R_below HO.out hb, below_then HB.out HBase.out hb, grown_of_below hb _⟩
    · omega
  · have hne : ¬ i0 = -1 := by have h := ‹(i0 == -1) = false›; simpa using h
    rcases hf with ⟨h, _⟩ | ⟨k, x, rfl, hk, hpx, hall⟩
    · exact absurd h hne
    clear hne
    have HK := Aside0.mk (Kept_.start hk hpx hall)
    have hkl : k < l0.length := (List.getElem?_eq_some_iff.1 hk).1
    obtain ⟨gb, cap, hv, hgb, hgl, _⟩ := Kd.R_form HO.out (by omega)
    injection hv with hA _ hc
    subst hA
    subst hc
    have HO1 := Aside0.mk (Kd.R_below HO.out hb)
    have HB1 := Aside0.mk (below_then HB.out HBase.out hb)
    have HG1 := Aside0.mk (grown_of_below hb (some gb))
    have HGB := Aside0.mk hgb
    have HBase1 : Aside0 (base ≤ w1.heap.size) := ⟨Nat.le_trans HBase.out hb.size⟩
    clear hk hpx hall hb HO HB hgb hgl
    go_loopg [5, 6] l0.length (fun gg v5 v6 W => ∃ (i j : Int) (ys : List S50), v5 = .int .i64 i ∧ v6 = .int .i64 j ∧ Aside0 (0 ≤ i ∧ i < j ∧ j ≤ l0.length ∧ (l0.length : Int) - j ≤ gg) ∧ Aside0 (Kept_ p l0 ys i.toNat j.toNat) ∧
      Aside0 (Kd.R k50 50 W base ok (.slice (some ⟨gb, 0, none⟩) l0.length c0) ys) ∧ Aside0 (Below base w0 W) ∧ Aside0 (w.grownBy W (some gb)) ∧ Aside0 (base ≤ W.heap.size))
    case atStart =>
      have hw : wrap64 ((k : Int) + 1) = (k : Int) + 1 := by unfold wrap64; omega
      refine ⟨(k : Int), (k : Int) + 1, l0, rfl, by rw [hw], ⟨by omega⟩, ⟨?_⟩, HO1, HB1, HG1, HBase1⟩
      have h1 : (k : Int).toNat = k := by omega
      have h2 : ((k : Int) + 1).toNat = k + 1 := by omega
      rw [h1, h2]
      exact HK.out
    case round =>
      clear HK HO1 HB1 HG1 HBase1 HIX
      obtain ⟨i, j, ys, rfl, rfl, HJ, HK, HO, HB, HG, HBs⟩ := hrel
      have hi0 := HJ.out.1
      have hj0 : 0 ≤ j := by have := HJ.out; omega
      have hj1 : j ≤ 9223372036854775807 := by have := HJ.out; omega
      have hi1 : i ≤ 9223372036854775807 := by have := HJ.out; omega
      by_cases hlt : j < (l0.length : Int)
      · have hd : decide (j < (l0.length : Int)) = true := decide_eq_true hlt
        have hyl := HK.out.len
        obtain ⟨ad, e1, hx0, hx1⟩ := at_T50 (Kd.R_reads' HO.out).2.2 j hj0 (by omega)
        cases e1
        simp only [add_plain] at hx0 hx1
        have hget := HK.out.at_ (getD_mem z50 ys j.toNat (by omega))
        have HGet := Aside0.mk hget
        clear hget hyl
        have p1 := eq_true hj0
        have q1 := eq_true hlt
        go_wp2_with ((with_reducible refine gate_dst (N := 7) rfl ?_); refine box_event ?hg (N := 7) ?hd (cs := #[.string (⟨#[]⟩ : ByteArray), .string (⟨#[]⟩ : ByteArray)]) (t := 50) ?hr ?_; (case hd => rfl); (case hg => rfl); (case hr => first | (go_simp; done) | (go_simp; rfl)); intro gx hgx w9 hbox hb; have HGX := Aside0.mk hgx; have HBOX := Aside0.mk hbox; have HB9 := Aside0.mk hb; have hcz0 : w9.cell? ⟨gx, 0, none⟩ = some (.string (⟨#[]⟩ : ByteArray)) := (blk_cell hbox 0).trans rfl; have hcz1 : w9.cell? ⟨gx, 1, none⟩ = some (.string (⟨#[]⟩ : ByteArray)) := (blk_cell hbox 1).trans rfl; have hfz0 := blk_frozen hbox 0; have hfz1 := blk_frozen hbox 1; clear hgx hbox hb)
        have hge : wr.heap.size ≤ gx := by rw [HGX.out]; exact Nat.le_refl _
        have hbox2 := blk_put (blk_put HBOX.out 0 (.string (rd_T50 ys j).f0) rfl) 1 (.string (rd_T50 ys j).f1) (cs' := #[.string (rd_T50 ys j).f0, .string (rd_T50 ys j).f1]) rfl
        have hb2 := (HB9.out.setCell (p := ⟨gx, 0, none⟩) hge (.string (rd_T50 ys j).f0)).setCell (p := ⟨gx, 1, none⟩) hge (.string (rd_T50 ys j).f1)
        clear hcz0 hcz1 hfz0 hfz1 hge HBOX HB9
        generalize (w9.setCell ⟨gx, 0, none⟩ (.string (rd_T50 ys j).f0)).setCell ⟨gx, 1, none⟩ (.string (rd_T50 ys j).f1) = W2 at hbox2 hb2 ⊢
        have hcall := HP.out W2 (rd_T50 ys j) (List.mem_of_getElem? HGet.out) (grown_then HG.out hb2)
        have HBOX2 := Aside0.mk hbox2
        have HB2 := Aside0.mk hb2
        clear hbox2 hb2
        cases hq : p (rd_T50 ys j) with
        | true =>
          rw [hq] at hcall
          have HQ := Aside0.mk hq
          clear hq
          refine hcall.mono ?_
          clear hcall
          rintro e W3 ⟨rfl, hb3⟩
          have HB3 := Aside0.mk (below_then HB2.out HB2.out.size hb3)
          clear hb3
          go_wp2_with fail
          go_roundg (l0.length - (j.toNat + 1))
          case measure => have := HJ.out; omega
          case rel =>
            refine ⟨i, j + 1, ys, rfl, rfl, ⟨by have := HJ.out; omega⟩, ⟨?_⟩, ⟨Kd.R_below HO.out HB3.out⟩, ⟨below_then HB.out HBs.out HB3.out⟩, ⟨grown_then HG.out HB3.out⟩, ⟨Nat.le_trans HBs.out HB3.out.size⟩⟩
            rw [show (j + 1).toNat = j.toNat + 1 by have := HJ.out; omega]
            exact HK.out.skip HGet.out HQ.out
        | false =>
          rw [hq] at hcall
          have HQ := Aside0.mk hq
          clear hq
          refine hcall.mono ?_
          clear hcall
          rintro e W3 ⟨rfl, hb3⟩
          have HB3 := Aside0.mk (below_then HB2.out HB2.out.size hb3)
          have hbx := (hb3.block gx (blk_lt HBOX2.out)).trans HBOX2.out
          have hcz0 : W3.cell? ⟨gx, 0, none⟩ = some (.string (rd_T50 ys j).f0) := (blk_cell hbx 0).trans rfl
          have hcz1 : W3.cell? ⟨gx, 1, none⟩ = some (.string (rd_T50 ys j).f1) := (blk_cell hbx 1).trans rfl
          clear hb3 hbx
          have HO3 := Aside0.mk (Kd.R_below HO.out HB3.out)
          have HBb3 := Aside0.mk (below_then HB.out HBs.out HB3.out)
          have hil : i < (l0.length : Int) := by have := HJ.out; omega
          have hyl := HK.out.len
          obtain ⟨ad, e1, hy0, hy1⟩ := at_T50 (Kd.R_reads' HO3.out).2.2 i hi0 (by omega)
          cases e1
          simp only [add_plain] at hy0 hy1
          have HY := Aside0.mk (And.intro hy0 hy1)
          clear hy0 hy1 hyl
          have p2 := eq_true hi0
          have q2 := eq_true hil
          have hdi : decide (i < (l0.length : Int)) = true := decide_eq_true hil
          go_wp2_with ((with_reducible refine gate_store (p := 33) rfl ?_); (refine Kd.R_store k50 (w0 := w0) base rfl rfl 50 (.tmp 33) (.tmp 32) rfl 50 (g := gb) (n := l0.length) (cap := c0) (o' := i.toNat * 2) i 0 ys (rd_T50 ys j) (.agg #[.string (rd_T50 ys j).f0, .string (rd_T50 ys j).f1]) [.string (rd_T50 ys j).f0, .string (rd_T50 ys j).f1] [.string (rd_T50 ys i).f0, .string (rd_T50 ys i).f1] ok (fun _ => False) rfl rfl rfl rfl ?st1 (by simp [Value.oneCell']) HO3.out hi0 hil rfl ?st2 (Nat.le_refl 2) ?st3 (fun _ h => h.elim) HBb3.out ?_); (case st1 => kernel_rfl); (case st2 => intro j_ u_ h_; match j_, h_ with | 0, h_ => (cases h_; exact HY.out.1) | 1, h_ => (cases h_; exact HY.out.2) | (n_ + 2), h_ => cases h_); (case st3 => exact k50_mkM _ _ _ _); intro w4 ho4 hb4 hg4; have HO4 := Aside0.mk ho4; have HB4 := Aside0.mk hb4; have HG4 := Aside0.mk hg4; clear ho4 hb4 hg4)
          go_roundg (l0.length - (j.toNat + 1))
          case measure => have := HJ.out; omega
          case rel =>
            refine ⟨i + 1, j + 1, ys.set i.toNat (rd_T50 ys j), rfl, rfl, ⟨by have := HJ.out; omega⟩, ⟨?_⟩, HO4, HB4, ⟨grown_row (grown_then HG.out HB3.out) HG4.out⟩, ⟨Nat.le_trans HBs.out (Nat.le_trans HB3.out.size HG4.out.size)⟩⟩
            rw [show (j + 1).toNat = j.toNat + 1 by have := HJ.out; omega, show (i + 1).toNat = i.toNat + 1 by have := HJ.out; omega]
            exact HK.out.keep HGet.out HQ.out
      · have hd : decide (j < (l0.length : Int)) = false := decide_eq_false hlt
        have hjn : j = (l0.length : Int) := by have := HJ.out; omega
        have hin : i < (l0.length : Int) := by have := HJ.out; omega
        have hcap : l0.length ≤ c0 := (Kd.R_reads' HO.out).2.1
        obtain ⟨W2, hclr, ho2, hg2⟩ := R_clear (P := Tryz.prog) (c' := c0 - i.toNat) 32 0 (.agg #[.string (⟨#[]⟩ : ByteArray), .string (⟨#[]⟩ : ByteArray)]) Tryz.underlying32 (fun w => by kernel_rfl) rfl (by simp [Value.cells, Value.oneCell']) HO.out (i := i.toNat) (by omega)
        have hclr2 : ∀ ty, (Builtin.clear_ #[32] ty #[.slice (some ⟨gb, i.toNat * 2, none⟩) (l0.length - i.toNat) (c0 - i.toNat)]).run Tryz.prog wr = .ok (.tuple #[]) W2 := fun ty => hclr
        obtain ⟨i0_, hi0_, _, hsz_, _⟩ := info_parts info50
        have hcut0 := cut_from (P := Tryz.prog) 32 50 .i64 Tryz.underlying32 hi0_ 2 hsz_ (some ⟨gb, 0, none⟩) l0.length c0 i hi0 (by omega)
        have hcut : ∀ W : World, (Instr.slice 32 (.slice (some ⟨gb, 0, none⟩) l0.length c0) (some (.int .i64 i)) none none).run Tryz.prog W = .ok (.slice (some ⟨gb, i.toNat * 2, none⟩) (l0.length - i.toNat) (c0 - i.toNat)) W := by
          intro W
          have h := hcut0 W
          rw [if_neg (by omega)] at h
          simpa only [Option.map_some, add_plain] using h
        have hcut2 := cut_to (P := Tryz.prog) 32 50 .i64 Tryz.underlying32 hi0_ (some ⟨gb, 0, none⟩) l0.length c0 i hi0 (by omega) hcap
        have HO2 := Aside0.mk ho2
        have HG2 := Aside0.mk hg2
        have HHJ := Aside0.mk hjn
        clear hclr hcut0 ho2 hg2 hjn hi0_ hsz_
        go_wp2_with fail
        go_ret
        have hb2 := HB.out.grown HG2.out HBs.out (fun k hk => by injection hk with hk; subst hk; exact HGB.out)
        refine ⟨_, rfl, ?_, hb2, grown_row HG.out HG2.out⟩
        have hk := HK.out
        rw [show j.toNat = l0.length by have := HHJ.out; omega] at hk
        have h2 := HO2.out
        rw [hk.done] at h2
        exact h2
set_option maxHeartbeats 2000000 in
set_option maxRecDepth 100000 in
theorem slices_IndexFunc_Span.gen (g : Nat) (lb : Array Value) (p : S56 → Bool) (A0 : Option Addr) (c0 : Nat) (l0 : List S56) (w : World)
    (eg : ∀ args w, (callFunc g args).run Tryz.prog w = .ok (.enter g args) w) (hr0 : Kd.C k56 w A0 l0.length l0)
    (hp : ∀ W x, x ∈ l0 → Below w.heap.size w W → Calls Tryz.prog g (#[.agg #[.int .i64 x.f0, .int .i64 x.f1]] ++ lb) W fun e W' => e = .returned (.bool (p x)) ∧ Below W.heap.size W W') :
    Calls Tryz.prog 72 #[.slice A0 l0.length c0, .func (.func g) #[] lb] w (FoundPost p l0 w) := by
  have HR0 := Aside0.mk hr0
  have HP := Aside0.mk hp
  have hm := hr0.2.1
  clear hr0 hp
  have HB := Aside0.mk (Below.refl w.heap.size w)
  go_enter Tryz.func72, Tryz.ntmps72
  go_wp2
  go_loopg [8] l0.length (fun gg v8 W => ∃ j : Int, v8 = .int .i64 j ∧ Aside0 (0 ≤ j ∧ j ≤ l0.length ∧ (l0.length : Int) - j ≤ gg) ∧ Aside0 (∀ y ∈ l0.take j.toNat, p y = false) ∧ Aside0 (Below w.heap.size w W))
  case atStart => exact ⟨0, rfl, ⟨by omega⟩, ⟨by simp⟩, HB⟩
  case round =>
    obtain ⟨j, rfl, HG, HA, HB1⟩ := hrel
    clear HB
    have hg0 := HG.out.1
    have hg1 : j ≤ 9223372036854775807 := by have := HG.out.2.1; omega
    by_cases hlt : j < (l0.length : Int)
    · obtain ⟨ad, e1, hx0, hx1⟩ := at_T56 HR0.out j hg0 hlt
      cases e1
      replace hx0 := (HB1.out.cell (World.block_lt_of_cell? w _ hx0)).trans hx0
      replace hx1 := (HB1.out.cell (World.block_lt_of_cell? w _ hx1)).trans hx1
      have hget := getD_mem z56 l0 j.toNat (by omega)
      have hcall := HP.out _ (rd_T56 l0 j) (List.mem_of_getElem? hget) (by exact HB1.out)
      have HGet := Aside0.mk hget
      clear hget
      have hd : decide (j < (l0.length : Int)) = true := decide_eq_true hlt
      have p1 := eq_true hg0
      have q1 := eq_true hlt
      cases hq : p (rd_T56 l0 j) with
      | true =>
        have HQ := Aside0.mk hq
        rw [hq] at hcall
        clear hq
        go_wp2_with fail
        refine hcall.mono ?_
        clear hcall
        rintro e W' ⟨rfl, hb⟩
        have HBB := Aside0.mk hb
        clear hb
        go_wp2_with fail
        go_ret
        exact ⟨j, rfl, .inr ⟨j.toNat, _, by have := HG.out.1; omega, HGet.out, HQ.out, HA.out⟩, below_then HB1.out HB1.out.size HBB.out⟩
      | false =>
        have HQ := Aside0.mk hq
        rw [hq] at hcall
        clear hq
        go_wp2_with fail
        refine hcall.mono ?_
        clear hcall
        rintro e W' ⟨rfl, hb⟩
        have HBB := Aside0.mk hb
        clear hb
        go_wp2_with fail
        go_roundg (l0.length - (j.toNat + 1))
        case measure => have := HG.out; omega
        case rel => exact ⟨j + 1, by first | rfl | (go_num), ⟨by have := HG.out; omega⟩, ⟨fun y hy => by
            rw [show (j + 1).toNat = j.toNat + 1 by have := HG.out; omega, List.take_add_one, HGet.out] at hy
            rcases List.mem_append.1 hy with h | h
            · exact HA.out y h
            · simp at h; rw [h]; exact HQ.out⟩, ⟨below_then HB1.out HB1.out.size HBB.out⟩⟩
    · have hd : decide (j < (l0.length : Int)) = false := decide_eq_false hlt
      go_wp2
      go_ret
      exact ⟨-1, rfl, .inl ⟨rfl, fun x hx => HA.out x (by rw [List.take_of_length_le (by have := HG.out; omega)]; exact hx)⟩, HB1.out⟩
/-- What DeleteFunc leaves. -/
def DelPost_Span (base : Nat) (ok : Nat → Prop) (p : S56 → Bool) (l0 : List S56) (w0 w : World) (row : Option Nat) (e : Ending) (w' : World) : Prop :=
  ∃ v' : Value, e = .returned v' ∧ Kd.R k56 56 w' base ok v' (l0.filter fun x => !p x) ∧ Below base w0 w' ∧ w.grownBy w' row
set_option maxHeartbeats 4000000 in
set_option maxRecDepth 100000 in
theorem slices_DeleteFunc_Span.gen (g : Nat) (lb : Array Value) (p : S56 → Bool) (base : Nat) (ok : Nat → Prop) (A0 : Option Addr) (c0 : Nat) (l0 : List S56) (w0 w : World)
    (eg : ∀ args w, (callFunc g args).run Tryz.prog w = .ok (.enter g args) w) (ho : Kd.R k56 56 w base ok (.slice A0 l0.length c0) l0) (hB : Below base w0 w) (hbase : base ≤ w.heap.size)
    (hp : ∀ W x, x ∈ l0 → w.grownBy W (Value.slice A0 l0.length c0).ownBlock → Calls Tryz.prog g (#[.agg #[.int .i64 x.f0, .int .i64 x.f1]] ++ lb) W fun e W' => e = .returned (.bool (p x)) ∧ Below W.heap.size W W') :
    Calls Tryz.prog 34 #[.slice A0 l0.length c0, .func (.func g) #[] lb] w (DelPost_Span base ok p l0 w0 w (Value.slice A0 l0.length c0).ownBlock) := by
  have hC := (Kd.R_reads' ho).2.2
  have hix := slices_IndexFunc_Span.gen g lb p A0 c0 l0 w eg hC (fun W x hx hb => hp W x hx (grown_of_below hb _))
  have HIX := Aside0.mk hix
  have HO := Aside0.mk ho
  have HB := Aside0.mk hB
  have HBase := Aside0.mk hbase
  have HP := Aside0.mk hp
  have hn : l0.length ≤ 9223372036854775807 := hC.2.1
  clear hC hix ho hB hbase hp
  go_enter Tryz.func34, Tryz.ntmps34
  go_wp2_with (go_at_call 72; refine HIX.out.mono ?_; rintro e w1 ⟨i0, rfl, hf, hb⟩)
  · have hi : i0 = -1 := by have h := ‹(i0 == -1) = true›; simpa using h
    subst hi
    go_ret
    rcases hf with ⟨_, hall⟩ | ⟨k, x, hk, _⟩
    · exact ⟨_, rfl, by rw [filter_none hall]; exact Kd.R_below HO.out hb, below_then HB.out HBase.out hb, grown_of_below hb _⟩
    · omega
  · have hne : ¬ i0 = -1 := by have h := ‹(i0 == -1) = false›; simpa using h
    rcases hf with ⟨h, _⟩ | ⟨k, x, rfl, hk, hpx, hall⟩
    · exact absurd h hne
    clear hne
    have HK := Aside0.mk (Kept_.start hk hpx hall)
    have hkl : k < l0.length := (List.getElem?_eq_some_iff.1 hk).1
    obtain ⟨gb, cap, hv, hgb, hgl, _⟩ := Kd.R_form HO.out (by omega)
    injection hv with hA _ hc
    subst hA
    subst hc
    have HO1 := Aside0.mk (Kd.R_below HO.out hb)
    have HB1 := Aside0.mk (below_then HB.out HBase.out hb)
    have HG1 := Aside0.mk (grown_of_below hb (some gb))
    have HGB := Aside0.mk hgb
    have HBase1 : Aside0 (base ≤ w1.heap.size) := ⟨Nat.le_trans HBase.out hb.size⟩
    clear hk hpx hall hb HO HB hgb hgl
    go_loopg [5, 6] l0.length (fun gg v5 v6 W => ∃ (i j : Int) (ys : List S56), v5 = .int .i64 i ∧ v6 = .int .i64 j ∧ Aside0 (0 ≤ i ∧ i < j ∧ j ≤ l0.length ∧ (l0.length : Int) - j ≤ gg) ∧ Aside0 (Kept_ p l0 ys i.toNat j.toNat) ∧
      Aside0 (Kd.R k56 56 W base ok (.slice (some ⟨gb, 0, none⟩) l0.length c0) ys) ∧ Aside0 (Below base w0 W) ∧ Aside0 (w.grownBy W (some gb)) ∧ Aside0 (base ≤ W.heap.size))
    case atStart =>
      have hw : wrap64 ((k : Int) + 1) = (k : Int) + 1 := by unfold wrap64; omega
      refine ⟨(k : Int), (k : Int) + 1, l0, rfl, by rw [hw], ⟨by omega⟩, ⟨?_⟩, HO1, HB1, HG1, HBase1⟩
      have h1 : (k : Int).toNat = k := by omega
      have h2 : ((k : Int) + 1).toNat = k + 1 := by omega
      rw [h1, h2]
      exact HK.out
    case round =>
      clear HK HO1 HB1 HG1 HBase1 HIX
      obtain ⟨i, j, ys, rfl, rfl, HJ, HK, HO, HB, HG, HBs⟩ := hrel
      have hi0 := HJ.out.1
      have hj0 : 0 ≤ j := by have := HJ.out; omega
      have hj1 : j ≤ 9223372036854775807 := by have := HJ.out; omega
      have hi1 : i ≤ 9223372036854775807 := by have := HJ.out; omega
      by_cases hlt : j < (l0.length : Int)
      · have hd : decide (j < (l0.length : Int)) = true := decide_eq_true hlt
        have hyl := HK.out.len
        obtain ⟨ad, e1, hx0, hx1⟩ := at_T56 (Kd.R_reads' HO.out).2.2 j hj0 (by omega)
        cases e1
        simp only [add_plain] at hx0 hx1
        have hget := HK.out.at_ (getD_mem z56 ys j.toNat (by omega))
        have HGet := Aside0.mk hget
        clear hget hyl
        have p1 := eq_true hj0
        have q1 := eq_true hlt
        go_wp2_with ((with_reducible refine gate_dst (N := 7) rfl ?_); refine box_event ?hg (N := 7) ?hd (cs := #[.int .i64 0, .int .i64 0]) (t := 56) ?hr ?_; (case hd => rfl); (case hg => rfl); (case hr => first | (go_simp; done) | (go_simp; rfl)); intro gx hgx w9 hbox hb; have HGX := Aside0.mk hgx; have HBOX := Aside0.mk hbox; have HB9 := Aside0.mk hb; have hcz0 : w9.cell? ⟨gx, 0, none⟩ = some (.int .i64 0) := (blk_cell hbox 0).trans rfl; have hcz1 : w9.cell? ⟨gx, 1, none⟩ = some (.int .i64 0) := (blk_cell hbox 1).trans rfl; have hfz0 := blk_frozen hbox 0; have hfz1 := blk_frozen hbox 1; clear hgx hbox hb)
        have hge : wr.heap.size ≤ gx := by rw [HGX.out]; exact Nat.le_refl _
        have hbox2 := blk_put (blk_put HBOX.out 0 (.int .i64 (rd_T56 ys j).f0) rfl) 1 (.int .i64 (rd_T56 ys j).f1) (cs' := #[.int .i64 (rd_T56 ys j).f0, .int .i64 (rd_T56 ys j).f1]) rfl
        have hb2 := (HB9.out.setCell (p := ⟨gx, 0, none⟩) hge (.int .i64 (rd_T56 ys j).f0)).setCell (p := ⟨gx, 1, none⟩) hge (.int .i64 (rd_T56 ys j).f1)
        clear hcz0 hcz1 hfz0 hfz1 hge HBOX HB9
        generalize (w9.setCell ⟨gx, 0, none⟩ (.int .i64 (rd_T56 ys j).f0)).setCell ⟨gx, 1, none⟩ (.int .i64 (rd_T56 ys j).f1) = W2 at hbox2 hb2 ⊢
        have hcall := HP.out W2 (rd_T56 ys j) (List.mem_of_getElem? HGet.out) (grown_then HG.out hb2)
        have HBOX2 := Aside0.mk hbox2
        have HB2 := Aside0.mk hb2
        clear hbox2 hb2
        cases hq : p (rd_T56 ys j) with
        | true =>
          rw [hq] at hcall
          have HQ := Aside0.mk hq
          clear hq
          refine hcall.mono ?_
          clear hcall
          rintro e W3 ⟨rfl, hb3⟩
          have HB3 := Aside0.mk (below_then HB2.out HB2.out.size hb3)
          clear hb3
          go_wp2_with fail
          go_roundg (l0.length - (j.toNat + 1))
          case measure => have := HJ.out; omega
          case rel =>
            refine ⟨i, j + 1, ys, rfl, rfl, ⟨by have := HJ.out; omega⟩, ⟨?_⟩, ⟨Kd.R_below HO.out HB3.out⟩, ⟨below_then HB.out HBs.out HB3.out⟩, ⟨grown_then HG.out HB3.out⟩, ⟨Nat.le_trans HBs.out HB3.out.size⟩⟩
            rw [show (j + 1).toNat = j.toNat + 1 by have := HJ.out; omega]
            exact HK.out.skip HGet.out HQ.out
        | false =>
          rw [hq] at hcall
          have HQ := Aside0.mk hq
          clear hq
          refine hcall.mono ?_
          clear hcall
          rintro e W3 ⟨rfl, hb3⟩
          have HB3 := Aside0.mk (below_then HB2.out HB2.out.size hb3)
          have hbx := (hb3.block gx (blk_lt HBOX2.out)).trans HBOX2.out
          have hcz0 : W3.cell? ⟨gx, 0, none⟩ = some (.int .i64 (rd_T56 ys j).f0) := (blk_cell hbx 0).trans rfl
          have hcz1 : W3.cell? ⟨gx, 1, none⟩ = some (.int .i64 (rd_T56 ys j).f1) := (blk_cell hbx 1).trans rfl
          clear hb3 hbx
          have HO3 := Aside0.mk (Kd.R_below HO.out HB3.out)
          have HBb3 := Aside0.mk (below_then HB.out HBs.out HB3.out)
          have hil : i < (l0.length : Int) := by have := HJ.out; omega
          have hyl := HK.out.len
          obtain ⟨ad, e1, hy0, hy1⟩ := at_T56 (Kd.R_reads' HO3.out).2.2 i hi0 (by omega)
          cases e1
          simp only [add_plain] at hy0 hy1
          have HY := Aside0.mk (And.intro hy0 hy1)
          clear hy0 hy1 hyl
          have p2 := eq_true hi0
          have q2 := eq_true hil
          have hdi : decide (i < (l0.length : Int)) = true := decide_eq_true hil
          go_wp2_with ((with_reducible refine gate_store (p := 33) rfl ?_); (refine Kd.R_store k56 (w0 := w0) base rfl rfl 56 (.tmp 33) (.tmp 32) rfl 56 (g := gb) (n := l0.length) (cap := c0) (o' := i.toNat * 2) i 0 ys (rd_T56 ys j) (.agg #[.int .i64 (rd_T56 ys j).f0, .int .i64 (rd_T56 ys j).f1]) [.int .i64 (rd_T56 ys j).f0, .int .i64 (rd_T56 ys j).f1] [.int .i64 (rd_T56 ys i).f0, .int .i64 (rd_T56 ys i).f1] ok (fun _ => False) rfl rfl rfl rfl ?st1 (by simp [Value.oneCell']) HO3.out hi0 hil rfl ?st2 (Nat.le_refl 2) ?st3 (fun _ h => h.elim) HBb3.out ?_); (case st1 => kernel_rfl); (case st2 => intro j_ u_ h_; match j_, h_ with | 0, h_ => (cases h_; exact HY.out.1) | 1, h_ => (cases h_; exact HY.out.2) | (n_ + 2), h_ => cases h_); (case st3 => exact k56_mkM _ _ _ _); intro w4 ho4 hb4 hg4; have HO4 := Aside0.mk ho4; have HB4 := Aside0.mk hb4; have HG4 := Aside0.mk hg4; clear ho4 hb4 hg4)
          go_roundg (l0.length - (j.toNat + 1))
          case measure => have := HJ.out; omega
          case rel =>
            refine ⟨i + 1, j + 1, ys.set i.toNat (rd_T56 ys j), rfl, rfl, ⟨by have := HJ.out; omega⟩, ⟨?_⟩, HO4, HB4, ⟨grown_row (grown_then HG.out HB3.out) HG4.out⟩, ⟨Nat.le_trans HBs.out (Nat.le_trans HB3.out.size HG4.out.size)⟩⟩
            rw [show (j + 1).toNat = j.toNat + 1 by have := HJ.out; omega, show (i + 1).toNat = i.toNat + 1 by have := HJ.out; omega]
            exact HK.out.keep HGet.out HQ.out
      · have hd : decide (j < (l0.length : Int)) = false := decide_eq_false hlt
        have hjn : j = (l0.length : Int) := by have := HJ.out; omega
        have hin : i < (l0.length : Int) := by have := HJ.out; omega
        have hcap : l0.length ≤ c0 := (Kd.R_reads' HO.out).2.1
        obtain ⟨W2, hclr, ho2, hg2⟩ := R_clear (P := Tryz.prog) (c' := c0 - i.toNat) 22 0 (.agg #[.int .i64 0, .int .i64 0]) Tryz.underlying22 (fun w => by kernel_rfl) rfl (by simp [Value.cells, Value.oneCell']) HO.out (i := i.toNat) (by omega)
        have hclr2 : ∀ ty, (Builtin.clear_ #[22] ty #[.slice (some ⟨gb, i.toNat * 2, none⟩) (l0.length - i.toNat) (c0 - i.toNat)]).run Tryz.prog wr = .ok (.tuple #[]) W2 := fun ty => hclr
        obtain ⟨i0_, hi0_, _, hsz_, _⟩ := info_parts info56
        have hcut0 := cut_from (P := Tryz.prog) 22 56 .i64 Tryz.underlying22 hi0_ 2 hsz_ (some ⟨gb, 0, none⟩) l0.length c0 i hi0 (by omega)
        have hcut : ∀ W : World, (Instr.slice 22 (.slice (some ⟨gb, 0, none⟩) l0.length c0) (some (.int .i64 i)) none none).run Tryz.prog W = .ok (.slice (some ⟨gb, i.toNat * 2, none⟩) (l0.length - i.toNat) (c0 - i.toNat)) W := by
          intro W
          have h := hcut0 W
          rw [if_neg (by omega)] at h
          simpa only [Option.map_some, add_plain] using h
        have hcut2 := cut_to (P := Tryz.prog) 22 56 .i64 Tryz.underlying22 hi0_ (some ⟨gb, 0, none⟩) l0.length c0 i hi0 (by omega) hcap
        have HO2 := Aside0.mk ho2
        have HG2 := Aside0.mk hg2
        have HHJ := Aside0.mk hjn
        clear hclr hcut0 ho2 hg2 hjn hi0_ hsz_
        go_wp2_with fail
        go_ret
        have hb2 := HB.out.grown HG2.out HBs.out (fun k hk => by injection hk with hk; subst hk; exact HGB.out)
        refine ⟨_, rfl, ?_, hb2, grown_row HG.out HG2.out⟩
        have hk := HK.out
        rw [show j.toNat = l0.length by have := HHJ.out; omega] at hk
        have h2 := HO2.out
        rw [hk.done] at h2
        exact h2
end Go.Proofs.YtacgmcmnnogbbaaGreatDoor.PX

namespace Go.Proofs.YtacgmcmnnogbbaaGreatDoor.PX
open List (setIfInBounds_toArray set_cons_zero set_cons_succ)
open Go.RowKit Go.Proofs.YtacgmcmnnogbbaaGreatDoorW.PrintWords Go.Proofs.YtacgmcmnnogbbaaGreatDoorW.PrintLast Go.Proofs.YtacgmcmnnogbbaaGreatDoorW.PrintMore
attribute [local go_sem] max2_int min2_int max_two min_two max_three min_three max_four min_four
set_option linter.unusedVariables false
set_option linter.unusedSimpArgs false
def part_copied.f (a0_0 : Int) (a0_1 : ByteArray) (l0_2 : List (S50)) (l0_3 : List Int) : Option (Int × ByteArray × (List (S50)) × List Int) := (slices_Clone_Field.f l0_2).bind fun t103 => ((slices_Clone_byte.f l0_3).bind fun t106 => (some (a0_0, a0_1, t103, t106)))
def part_copied.T1 : Bool × List (List Nat × List Nat) := (true, [([], []), ([0], [0]), ([1], [1]), ([], []), ([3], [3]), ([4, 2], [4]), ([0, 1, 2, 3, 4], []), ([6, 2, 5, 0, 1, 2, 3, 4], [2, 6]), ([0, 1, 2, 3, 4, 5, 6, 7], []), ([8, 5, 7, 0, 1, 2, 3, 4, 5, 6, 7], [5, 8])])
def part_copied.B1 : List Nat := [0, 1, 3, 0, 8, 31, 31, 127, 255, 511]
theorem part_copied.tab1 : rtab .any (opsOf Tryz.f42 1) = part_copied.T1 := by kernel_rfl
theorem part_copied.bits1 : waitsOk part_copied.T1.2 part_copied.B1 = true := by kernel_rfl
set_option maxHeartbeats 8000000 in
set_option maxRecDepth 100000 in
theorem part_copied.calls (a0_0 : Int) (a0_1 : ByteArray) (A0_2 : Option Addr) (c0_2 : Nat) (l0_2 : List (S50)) (A0_3 : Option Addr) (c0_3 : Nat) (l0_3 : List Int) (r1 : Int) (r2 : ByteArray) (r3 : List (S50)) (r4 : List Int) (w : World) (hr0_2 : Kd.C k50 w A0_2 l0_2.length l0_2) (hc0_2 : l0_2.length ≤ c0_2) (hr0_3 : Kd.C (Kd.int .u8) w A0_3 l0_3.length l0_3) (hc0_3 : l0_3.length ≤ c0_3) (h : part_copied.f a0_0 a0_1 l0_2 l0_3 = some (r1, r2, r3, r4)) :
  Calls Tryz.prog 42 #[.agg #[.int .i64 a0_0, .string a0_1, .slice A0_2 l0_2.length c0_2, .slice A0_3 l0_3.length c0_3]] w fun e w' => ∃ v2_ v3_ : Value, e = .returned (.agg #[.int .i64 r1, .string r2, v2_, v3_]) ∧ Kd.R k50 50 w' w.heap.size (fun _ => True) v2_ r3 ∧ Kd.R (Kd.int .u8) 5 w' w.heap.size (fun _ => True) v3_ r4 ∧ Below w.heap.size w w' := by
 have hu37 := Tryz.underlying37
 have HR0_2 := Aside0.mk hr0_2
 have HC0_2 := Aside0.mk hc0_2
 clear hr0_2 hc0_2
 have HR0_3 := Aside0.mk hr0_3
 have HC0_3 := Aside0.mk hc0_3
 clear hr0_3 hc0_3
 have HB := Aside0.mk (Below.refl w.heap.size w)
 have H : ((slices_Clone_Field.f l0_2).bind fun t103 => ((slices_Clone_byte.f l0_3).bind fun t106 => (some (a0_0, a0_1, t103, t106)))) = some (r1, r2, r3, r4) := h
 clear h
 replace H := Option.bind_eq_some_iff.mp H
 obtain ⟨t103, A20, H⟩ := H
 replace H : ((slices_Clone_byte.f l0_3).bind fun t106 => (some (a0_0, a0_1, t103, t106))) = some (r1, r2, r3, r4) := H
 have A2 := Aside0.mk A20
 clear A20
 replace H := Option.bind_eq_some_iff.mp H
 obtain ⟨t106, A30, H⟩ := H
 replace H : (some (a0_0, a0_1, t103, t106)) = some (r1, r2, r3, r4) := H
 have A3 := Aside0.mk A30
 clear A30
 simp only [Option.some.injEq, Prod.mk.injEq] at H
 obtain ⟨rfl, rfl, rfl, rfl⟩ := H
 go_enter Tryz.func42, Tryz.ntmps42
 try go_wp2_with (first | ((with_reducible refine gate_dst (N := 1) rfl ?_); refine box_event ?hg (N := 1) ?hd (cs := #[.int .i64 a0_0, .string a0_1, .slice A0_2 l0_2.length c0_2, .slice A0_3 l0_3.length c0_3]) (t := 37) ?hr ?_; (case hd => rfl); (case hg => rfl); (case hr => first | (go_simp; done) | (go_simp; rfl)); intro gb101 hg w4 hbox hb; have n0_ := Aside0.mk (below_step (by repeat (first | (with_reducible first | exact HB.out | apply below_alloc | apply pw_below_drewN | apply below_drew1) | exact HB.out)) hb); have n1_ := Aside0.mk (hbox); have n2_ := Aside0.mk ((by rw [hg]; exact (below_size (by repeat (first | (with_reducible first | exact HB.out | apply below_alloc | apply pw_below_drewN | apply below_drew1) | exact HB.out))) : w.heap.size ≤ gb101)); have n3_ := Aside0.mk ((by rw [hg]; exact (below_size (by repeat (first | (with_reducible first | exact HB.out | apply below_alloc | apply pw_below_drewN | apply below_drew1) | exact HB.out))) : w.heap.size ≤ gb101)); clear HB; have HB := n0_; have BK101 := n1_; have GW101 := n2_; have GE101 := n3_; clear n0_ n1_ n2_ n3_; clear hb hbox hg) | ((with_reducible refine gate_dst (N := 2) rfl ?_); refine box_event ?hg (N := 2) ?hd (cs := #[.int .i64 0, .string (⟨#[]⟩ : ByteArray), .slice none 0 0, .slice none 0 0]) (t := 37) ?hr ?_; (case hd => rfl); (case hg => rfl); (case hr => first | (go_simp; done) | (go_simp; rfl)); intro gb102 hg w5 hbox hb; have n0_ := Aside0.mk (blk_below (g := gb101) (o := .cells #[.int .i64 a0_0, .string a0_1, .slice A0_2 l0_2.length c0_2, .slice A0_3 l0_3.length c0_3] 37 (0, 0)) (by (with_reducible repeat (first | refine blk_drewN ?_ _ | refine blk_drew ?_ | refine blk_alloc ?_ _)); exact BK101.out) hb); have n1_ := Aside0.mk (below_step (by repeat (first | (with_reducible first | exact HB.out | apply below_alloc | apply pw_below_drewN | apply below_drew1 | refine below_set ?_ GE101.out) | exact HB.out)) hb); have n2_ := Aside0.mk (hbox); have n3_ := Aside0.mk ((by rw [hg]; exact (below_size (by repeat (first | (with_reducible first | exact HB.out | apply below_alloc | apply pw_below_drewN | apply below_drew1 | refine below_set ?_ GE101.out) | exact HB.out))) : w.heap.size ≤ gb102)); have n4_ := Aside0.mk ((by rw [hg]; exact (below_size (by repeat (first | (with_reducible first | exact HB.out | apply below_alloc | apply pw_below_drewN | apply below_drew1 | refine below_set ?_ GE101.out) | exact HB.out))) : w.heap.size ≤ gb102)); have n5_ := Aside0.mk ((by rw [hg]; exact Nat.ne_of_lt (blk_lt (g := gb101) (o := .cells #[.int .i64 a0_0, .string a0_1, .slice A0_2 l0_2.length c0_2, .slice A0_3 l0_3.length c0_3] 37 (0, 0)) (by (with_reducible repeat (first | refine blk_drewN ?_ _ | refine blk_drew ?_ | refine blk_alloc ?_ _)); exact BK101.out)) : gb101 ≠ gb102)); have n6_ := Aside0.mk ((by rw [hg]; exact Nat.ne_of_gt (blk_lt (g := gb101) (o := .cells #[.int .i64 a0_0, .string a0_1, .slice A0_2 l0_2.length c0_2, .slice A0_3 l0_3.length c0_3] 37 (0, 0)) (by (with_reducible repeat (first | refine blk_drewN ?_ _ | refine blk_drew ?_ | refine blk_alloc ?_ _)); exact BK101.out)) : gb102 ≠ gb101)); clear BK101; clear HB; have BK101 := n0_; have HB := n1_; have BK102 := n2_; have GW102 := n3_; have GE102 := n4_; have NB101_102 := n5_; have NB102_101 := n6_; clear n0_ n1_ n2_ n3_ n4_ n5_ n6_; clear hb hbox hg))
 have n0_ := Aside0.mk (blk_drew BK101.out)
 have n1_ := Aside0.mk (blk_drew BK102.out)
 have n2_ := Aside0.mk (below_drew1 HB.out)
 clear BK101
 clear BK102
 clear HB
 have BK101 := n0_
 have BK102 := n1_
 have HB := n2_
 clear n0_ n1_ n2_
 refine start_ (n := 10) (S := fun w' => w'.cell? ⟨gb101, 0, none⟩ = some (.int .i64 a0_0) ∧ w'.cell? ⟨gb101, 1, none⟩ = some (.string a0_1) ∧ w'.cell? ⟨gb101, 2, none⟩ = some (.slice A0_2 l0_2.length c0_2) ∧ w'.cell? ⟨gb101, 3, none⟩ = some (.slice A0_3 l0_3.length c0_3)) (ds := [7, 9]) #[false, false, false, false, false, false, false, false, false, false] (by kernel_rfl) rfl rfl ⟨(blk_cell BK101.out 0).trans rfl, (blk_cell BK101.out 1).trans rfl, (blk_cell BK101.out 2).trans rfl, (blk_cell BK101.out 3).trans rfl⟩ (fun hHeld => ?_); refine with_tabW part_copied.tab1 part_copied.bits1 (fun HT_ HW_ => ?_)
 generalize w5.drew = w6 at BK101 BK102 HB hHeld ⊢
 refine pure_ (i := 0) (N := some 3) (v := ?_) (a' := ?_) #[true, false, false, false, false, false, false, false, false, false] rfl rfl (any_of HT_.out (by kernel_rfl)) (fun _ _ _ h => h) (Or.inl ⟨by rfl, ?_⟩) ?_ ?_
 rotate_left
 ·intro w'
  go_simp
  with_reducible rfl
 rotate_left
 ·simp only [Act.put, setIfInBounds_toArray, set_cons_zero, set_cons_succ, i64_w, i32_w]
  rfl
 refine pure_ (i := 3) (N := some 6) (v := ?_) (a' := ?_) #[true, false, false, true, false, false, false, false, false, false] rfl rfl (any_of HT_.out (by kernel_rfl)) (fun _ _ _ h => h) (Or.inl ⟨by rfl, ?_⟩) ?_ ?_
 rotate_left
 ·intro w'
  go_simp
  with_reducible rfl
 rotate_left
 ·simp only [Act.put, setIfInBounds_toArray, set_cons_zero, set_cons_succ, i64_w, i32_w]
  rfl
 refine take_ (i := 1) (N := some 4) (v := ?_) (a' := ?_) #[true, true, false, true, false, false, false, false, false, false] rfl rfl (take_ofW HT_.out HW_.out (by kernel_rfl)) (fun _ _ _ h => h) (Or.inl ⟨by rfl, ?_⟩) hHeld ?_ ?_
 rotate_left
 ·rintro w' ⟨s0, s1, s2, s3⟩
  go_simp
  with_reducible rfl
 rotate_left
 ·simp only [Act.put, setIfInBounds_toArray, set_cons_zero, set_cons_succ, i64_w, i32_w]
  rfl
 refine take_ (i := 4) (N := some 7) (v := ?_) (a' := ?_) #[true, true, false, true, true, false, false, false, false, false] rfl rfl (take_ofW HT_.out HW_.out (by kernel_rfl)) (fun _ _ _ h => h) (Or.inl ⟨by rfl, ?_⟩) hHeld ?_ ?_
 rotate_left
 ·rintro w' ⟨s0, s1, s2, s3⟩
  go_simp
  with_reducible rfl
 rotate_left
 ·simp only [Act.put, setIfInBounds_toArray, set_cons_zero, set_cons_succ, i64_w, i32_w]
  rfl
 refine one_ (i := 2) (N := some 5) #[true, true, true, true, true, false, false, false, false, false] rfl rfl (one_of HT_.out (by kernel_rfl)) (by decide) (fun K hK => ?_)
 refine goes_ Tryz.func75 (by kernel_rfl) rfl #[.slice A0_2 l0_2.length c0_2] (by rfl) rfl rfl (by (try simp only [List.map_toArray, List.map_cons, List.map_nil]); first | done | rfl | (simp only [List.length_drop, List.length_take]; rfl)) ?_
 with_reducible refine (slices_Clone_Field.calls _ _ l0_2 t103 _ ?side1 ?side2 A2.out).mono ?_
 (case side1 => repeat (first | exact (Kd.C_below HR0_2.out HB.out) | (with_reducible refine Kd.C_alloc ?_ _) | (with_reducible refine Kd.C_drewN ?_ _) | (with_reducible refine Kd.C_drew ?_)))
 (case side2 => exact HC0_2.out)
 rintro e w7 ⟨v104, rfl, ho0, hb⟩
 refine ⟨_, rfl, ?_⟩
 have n0_ := Aside0.mk (Kd.R_lower ho0 (below_size (by repeat (first | (with_reducible first | exact HB.out | apply below_alloc | apply pw_below_drewN | apply below_drew1 | refine below_set ?_ GE101.out | refine below_set ?_ GE102.out) | exact HB.out))))
 have n1_ := Aside0.mk (blk_below (g := gb101) (o := .cells #[.int .i64 a0_0, .string a0_1, .slice A0_2 l0_2.length c0_2, .slice A0_3 l0_3.length c0_3] 37 (0, 0)) (by (with_reducible repeat (first | refine blk_drewN ?_ _ | refine blk_drew ?_ | refine blk_alloc ?_ _)); exact BK101.out) hb)
 have n2_ := Aside0.mk (blk_below (g := gb102) (o := .cells #[.int .i64 0, .string (⟨#[]⟩ : ByteArray), .slice none 0 0, .slice none 0 0] 37 (0, 0)) (by (with_reducible repeat (first | refine blk_drewN ?_ _ | refine blk_drew ?_ | refine blk_alloc ?_ _)); exact BK102.out) hb)
 have n3_ := Aside0.mk (below_step (by repeat (first | (with_reducible first | exact HB.out | apply below_alloc | apply pw_below_drewN | apply below_drew1 | refine below_set ?_ GE101.out | refine below_set ?_ GE102.out) | exact HB.out)) hb)
 clear BK101
 clear BK102
 clear HB
 have HO105 := n0_
 have BK101 := n1_
 have BK102 := n2_
 have HB := n3_
 clear n0_ n1_ n2_ n3_
 (try clear hb)
 (try clear hb2)
 (try clear hk)
 (try clear hi)
 (try clear ho0)
 refine hK.out _ _ ⟨(blk_cell BK101.out 0).trans rfl, (blk_cell BK101.out 1).trans rfl, (blk_cell BK101.out 2).trans rfl, (blk_cell BK101.out 3).trans rfl⟩ (fun hHeld => ?_)
 clear hK K
 refine norm_ (a' := ?_) ?_ ?_
 rotate_left
 ·show Act.put _ (some 5) _ = _
  simp only [Act.put, setIfInBounds_toArray, set_cons_zero, set_cons_succ, i64_w, i32_w]
  rfl
 refine pure_ (i := 6) (N := some 9) (v := ?_) (a' := ?_) #[true, true, true, true, true, false, true, false, false, false] rfl rfl (any_of HT_.out (by kernel_rfl)) (fun _ _ _ h => h) (Or.inl ⟨by rfl, ?_⟩) ?_ ?_
 rotate_left
 ·intro w'
  go_simp
  with_reducible rfl
 rotate_left
 ·simp only [Act.put, setIfInBounds_toArray, set_cons_zero, set_cons_succ, i64_w, i32_w]
  rfl
 refine one_ (i := 5) (N := some 8) #[true, true, true, true, true, true, true, false, false, false] rfl rfl (one_of HT_.out (by kernel_rfl)) (by decide) (fun K hK => ?_)
 refine goes_ Tryz.func49 (by kernel_rfl) rfl #[.slice A0_3 l0_3.length c0_3] (by rfl) rfl rfl (by (try simp only [List.map_toArray, List.map_cons, List.map_nil]); first | done | rfl | (simp only [List.length_drop, List.length_take]; rfl)) ?_
 with_reducible refine (slices_Clone_byte.calls _ _ l0_3 t106 _ ?side1 ?side2 A3.out).mono ?_
 (case side1 => repeat (first | exact (Kd.C_below HR0_3.out HB.out) | (with_reducible refine Kd.C_alloc ?_ _) | (with_reducible refine Kd.C_drewN ?_ _) | (with_reducible refine Kd.C_drew ?_)))
 (case side2 => exact HC0_3.out)
 rintro e w8 ⟨v107, rfl, ho0, hb⟩
 refine ⟨_, rfl, ?_⟩
 have n0_ := Aside0.mk (Kd.R_below (by (with_reducible repeat (first | apply Kd.R_alloc | apply Kd.R_drewN | apply Kd.R_drew)); exact HO105.out) hb)
 have n1_ := Aside0.mk (Kd.R_lower ho0 (below_size (by repeat (first | (with_reducible first | exact HB.out | apply below_alloc | apply pw_below_drewN | apply below_drew1 | refine below_set ?_ GE101.out | refine below_set ?_ GE102.out) | exact HB.out))))
 have n2_ := Aside0.mk (blk_below (g := gb101) (o := .cells #[.int .i64 a0_0, .string a0_1, .slice A0_2 l0_2.length c0_2, .slice A0_3 l0_3.length c0_3] 37 (0, 0)) (by (with_reducible repeat (first | refine blk_drewN ?_ _ | refine blk_drew ?_ | refine blk_alloc ?_ _)); exact BK101.out) hb)
 have n3_ := Aside0.mk (blk_below (g := gb102) (o := .cells #[.int .i64 0, .string (⟨#[]⟩ : ByteArray), .slice none 0 0, .slice none 0 0] 37 (0, 0)) (by (with_reducible repeat (first | refine blk_drewN ?_ _ | refine blk_drew ?_ | refine blk_alloc ?_ _)); exact BK102.out) hb)
 have n4_ := Aside0.mk (below_step (by repeat (first | (with_reducible first | exact HB.out | apply below_alloc | apply pw_below_drewN | apply below_drew1 | refine below_set ?_ GE101.out | refine below_set ?_ GE102.out) | exact HB.out)) hb)
 clear HO105
 clear BK101
 clear BK102
 clear HB
 have HO105 := n0_
 have HO108 := n1_
 have BK101 := n2_
 have BK102 := n3_
 have HB := n4_
 clear n0_ n1_ n2_ n3_ n4_
 (try clear hb)
 (try clear hb2)
 (try clear hk)
 (try clear hi)
 (try clear ho0)
 obtain ⟨Ao9, co9, eo9⟩ := Kd.R_slice HO105.out
 (first | subst eo9 | (injection eo9 with f1_ f2_ f3_; have f4_ := f1_.symm; have f5_ := f3_.symm; clear f1_ f2_ f3_; subst f4_; subst f5_))
 obtain ⟨Ao11, co11, eo11⟩ := Kd.R_slice HO108.out
 (first | subst eo11 | (injection eo11 with f1_ f2_ f3_; have f4_ := f1_.symm; have f5_ := f3_.symm; clear f1_ f2_ f3_; subst f4_; subst f5_))
 refine hK.out _ _ ⟨(blk_cell BK101.out 0).trans rfl, (blk_cell BK101.out 1).trans rfl, (blk_cell BK101.out 2).trans rfl, (blk_cell BK101.out 3).trans rfl⟩ (fun hHeld => ?_)
 clear hK K
 refine norm_ (a' := ?_) ?_ ?_
 rotate_left
 ·show Act.put _ (some 8) _ = _
  simp only [Act.put, setIfInBounds_toArray, set_cons_zero, set_cons_succ, i64_w, i32_w]
  rfl
 refine last_ (i := 7) (N := none) #[true, true, true, true, true, true, true, true, false, false] rfl rfl (one_of HT_.out (by kernel_rfl)) (by decide) (fun K hK => ?_)
 have hs10 : w8.cell? ⟨gb101, 2, none⟩ = some (.slice A0_2 l0_2.length c0_2) := (blk_cell BK101.out 2).trans rfl
 have hfs10 := blk_frozen BK101.out 2
 have hns10_1 := NB102_101.out
 have hms10_1 := NB101_102.out
 refine skip_ (w1 := ?_) (by rfl) rfl ?_ ?_
 rotate_left
 ·go_simp
  rfl
 refine hK.out _ _ ?_
 clear hK K
 refine pure_ (i := 8) (N := some 10) (v := ?_) (a' := ?_) #[true, true, true, true, true, true, true, true, true, false] rfl rfl (any_of HT_.out (by kernel_rfl)) (fun _ _ _ h => h) (Or.inl ⟨by rfl, ?_⟩) ?_ ?_
 rotate_left
 ·intro w'
  go_simp
  with_reducible rfl
 rotate_left
 ·simp only [Act.put, setIfInBounds_toArray, set_cons_zero, set_cons_succ, i64_w, i32_w]
  rfl
 refine last_ (i := 9) (N := none) #[true, true, true, true, true, true, true, true, true, true] rfl rfl (one_of HT_.out (by kernel_rfl)) (by decide) (fun K hK => ?_)
 have hs12 : w8.cell? ⟨gb101, 3, none⟩ = some (.slice A0_3 l0_3.length c0_3) := (blk_cell BK101.out 3).trans rfl
 have hfs12 := blk_frozen BK101.out 3
 have hns12_1 := NB102_101.out
 have hms12_1 := NB101_102.out
 refine skip_ (w1 := ?_) (by rfl) rfl ?_ ?_
 rotate_left
 ·go_simp
  rfl
 refine hK.out _ _ ?_
 clear hK K
 refine done_ (done_of HT_.out (by kernel_rfl)) ?_
 have hnb13 := NB101_102.out
 have hnc13 := NB102_101.out
 have hcz14_0 : w8.cell? ⟨gb101, 0, none⟩ = some (.int .i64 a0_0) := (blk_cell BK101.out 0).trans rfl
 have hcz14_1 : w8.cell? ⟨gb101, 1, none⟩ = some (.string a0_1) := (blk_cell BK101.out 1).trans rfl
 have hcz14_2 : w8.cell? ⟨gb101, 2, none⟩ = some (.slice A0_2 l0_2.length c0_2) := (blk_cell BK101.out 2).trans rfl
 have hcz14_3 : w8.cell? ⟨gb101, 3, none⟩ = some (.slice A0_3 l0_3.length c0_3) := (blk_cell BK101.out 3).trans rfl
 have hfz14_0 := blk_frozen BK101.out 0
 have hfz14_1 := blk_frozen BK101.out 1
 have hfz14_2 := blk_frozen BK101.out 2
 have hfz14_3 := blk_frozen BK101.out 3
 have hcz15_0 : w8.cell? ⟨gb102, 0, none⟩ = some (.int .i64 0) := (blk_cell BK102.out 0).trans rfl
 have hcz15_1 : w8.cell? ⟨gb102, 1, none⟩ = some (.string (⟨#[]⟩ : ByteArray)) := (blk_cell BK102.out 1).trans rfl
 have hcz15_2 : w8.cell? ⟨gb102, 2, none⟩ = some (.slice none 0 0) := (blk_cell BK102.out 2).trans rfl
 have hcz15_3 : w8.cell? ⟨gb102, 3, none⟩ = some (.slice none 0 0) := (blk_cell BK102.out 3).trans rfl
 have hfz15_0 := blk_frozen BK102.out 0
 have hfz15_1 := blk_frozen BK102.out 1
 have hfz15_2 := blk_frozen BK102.out 2
 have hfz15_3 := blk_frozen BK102.out 3
 try go_wp2
 refine bodyPost_ret (results_cell_row rfl _ _ gb102 37 #[.int .i64 a0_0, .string a0_1, .slice Ao9 t103.length co9, .slice Ao11 t106.length co11] (0, 0) _ rfl (by (with_reducible repeat (first | refine blk_drewN ?_ _ | refine blk_drew ?_ | refine blk_alloc ?_ _)); refine blk_put (cs := #[.int .i64 a0_0, .string a0_1, .slice Ao9 t103.length co9, .slice none 0 0]) ?_ 3 _ rfl; (with_reducible repeat (first | refine blk_drewN ?_ _ | refine blk_drew ?_ | refine blk_alloc ?_ _)); refine blk_put (cs := #[.int .i64 a0_0, .string a0_1, .slice none 0 0, .slice none 0 0]) ?_ 2 _ rfl; (with_reducible repeat (first | refine blk_drewN ?_ _ | refine blk_drew ?_ | refine blk_alloc ?_ _)); refine blk_put (cs := #[.int .i64 a0_0, .string (⟨#[]⟩ : ByteArray), .slice none 0 0, .slice none 0 0]) ?_ 1 _ rfl; (with_reducible repeat (first | refine blk_drewN ?_ _ | refine blk_drew ?_ | refine blk_alloc ?_ _)); refine blk_put (cs := #[.int .i64 0, .string (⟨#[]⟩ : ByteArray), .slice none 0 0, .slice none 0 0]) ?_ 0 _ rfl; (with_reducible repeat (first | refine blk_drewN ?_ _ | refine blk_drew ?_ | refine blk_alloc ?_ _)); refine blk_far ?_ NB102_101.out _; (with_reducible repeat (first | refine blk_drewN ?_ _ | refine blk_drew ?_ | refine blk_alloc ?_ _)); refine blk_far ?_ NB102_101.out _; (with_reducible repeat (first | refine blk_drewN ?_ _ | refine blk_drew ?_ | refine blk_alloc ?_ _)); exact BK102.out) Tryz.underlying37 rfl (by kernel_rfl)) rfl ?_
 exact ⟨_, _, by first | rfl | (simp [errW_none, errW_some] <;> rfl) | (simp [*, errW_none, errW_some] <;> rfl), by (with_reducible repeat (first | apply Kd.R_alloc | apply Kd.R_drewN | apply Kd.R_drew)); exact Kd.R_mono (Kd.R_far (p := ⟨gb102, 3, none⟩) (Kd.R_far (p := ⟨gb102, 2, none⟩) (Kd.R_far (p := ⟨gb102, 1, none⟩) (Kd.R_far (p := ⟨gb102, 0, none⟩) (Kd.R_far (p := ⟨gb101, 3, none⟩) (Kd.R_far (p := ⟨gb101, 2, none⟩) (Kd.R_types (Kd.R_types HO105.out BK101.out (by decide)) BK102.out (by decide)) (fun _ hk => hk.1.2) (.slice Ao9 t103.length co9)) (fun _ hk => hk.1.2) (.slice Ao11 t106.length co11)) (fun _ hk => hk.2) (.int .i64 a0_0)) (fun _ hk => hk.2) (.string a0_1)) (fun _ hk => hk.2) (.slice Ao9 t103.length co9)) (fun _ hk => hk.2) (.slice Ao11 t106.length co11)) (fun _ hk => trivial), by (with_reducible repeat (first | apply Kd.R_alloc | apply Kd.R_drewN | apply Kd.R_drew)); exact Kd.R_mono (Kd.R_far (p := ⟨gb102, 3, none⟩) (Kd.R_far (p := ⟨gb102, 2, none⟩) (Kd.R_far (p := ⟨gb102, 1, none⟩) (Kd.R_far (p := ⟨gb102, 0, none⟩) (Kd.R_far (p := ⟨gb101, 3, none⟩) (Kd.R_far (p := ⟨gb101, 2, none⟩) (Kd.R_types (Kd.R_types HO108.out BK101.out (by decide)) BK102.out (by decide)) (fun _ hk => hk.1.2) (.slice Ao9 t103.length co9)) (fun _ hk => hk.1.2) (.slice Ao11 t106.length co11)) (fun _ hk => hk.2) (.int .i64 a0_0)) (fun _ hk => hk.2) (.string a0_1)) (fun _ hk => hk.2) (.slice Ao9 t103.length co9)) (fun _ hk => hk.2) (.slice Ao11 t106.length co11)) (fun _ hk => trivial), by repeat (first | (with_reducible first | exact HB.out | apply below_alloc | apply pw_below_drewN | apply below_drew1 | refine below_set ?_ GE101.out | refine below_set ?_ GE102.out) | exact HB.out)⟩
end Go.Proofs.YtacgmcmnnogbbaaGreatDoor.PX

