import Derived.RegionTactic
import Derived.Lib.IndexLaws
import Derived.Test.YtacgmcmnnogbbaaGreatDoorPR1
import Derived.Test.YtacgmcmnnogbbaaGreatDoorPR2
import Derived.Test.YtacgmcmnnogbbaaGreatDoorPR4
namespace Go.Proofs.YtacgmcmnnogbbaaGreatDoor.PX
open Go.RowKit Go.Proofs.YtacgmcmnnogbbaaGreatDoorW.PrintWords Go.Proofs.YtacgmcmnnogbbaaGreatDoorW.PrintLast Go.Proofs.YtacgmcmnnogbbaaGreatDoorW.PrintMore
set_option linter.unusedVariables false
set_option linter.unusedSimpArgs false
def strconv_Itoa.f (a0 : Int) : Option ByteArray := if 0 ≤ a0 ∧ a0 < 100 then some ⟨(Lib.decDigits a0.toNat).toArray⟩ else none
theorem strconv_Itoa.calls (a0 : Int) (r : ByteArray) (w : World) (h : strconv_Itoa.f a0 = some r) :
    Calls Tryz.prog 44 #[.int .i64 a0] w fun e w' => e = .returned (.string r) ∧ Drawn0 w w' := by
  unfold strconv_Itoa.f at h
  by_cases hc : 0 ≤ a0 ∧ a0 < 100
  · rw [if_pos hc] at h
    obtain rfl := Option.some.inj h
    have h1 := Tryz.strconv_Itoa_small a0.toNat (by omega) w
    rw [show ((a0.toNat : Nat) : Int) = a0 by omega] at h1
    exact h1.mono fun e w' ⟨h1, h2⟩ => ⟨h1, by rw [h2]; exact Drawn0.refl _⟩
  · rw [if_neg hc] at h; cases h
def strings_Trim.f (a0 a1 : ByteArray) : Option ByteArray :=
  if a0.size ≤ 9223372036854775807 ∧ a1.size < 4294967281 ∧ (a1.data.toList.all fun b => decide (b.toNat < 128)) = true then some ⟨(Lib.trimS a0.data.toList a1.data.toList).toArray⟩ else none
theorem strings_Trim.calls (a0 a1 : ByteArray) (r : ByteArray) (w : World) (h : strings_Trim.f a0 a1 = some r) :
    Calls Tryz.prog 29 #[.string a0, .string a1] w fun e w' => e = .returned (.string r) ∧ Below w.heap.size w w' := by
  unfold strings_Trim.f at h
  by_cases hc : a0.size ≤ 9223372036854775807 ∧ a1.size < 4294967281 ∧ (a1.data.toList.all fun b => decide (b.toNat < 128)) = true
  · rw [if_pos hc] at h
    obtain rfl := Option.some.inj h
    exact Tryz.strings_Trim_laid a0 a1 w hc.1 hc.2.1 (fun j b hb => of_decide_eq_true (List.all_eq_true.1 hc.2.2 b (List.mem_of_getElem? hb)))
  · rw [if_neg hc] at h; cases h
/-- strings.Cut at one byte. -/
def strings_Cut.f (a0 a1 : ByteArray) : Option (ByteArray × ByteArray × Bool) :=
  match a1.data.toList with
  | [c] => if a0.size ≤ 9223372036854775806 then (if Lib.indexByte a0.data.toList c < 0 then some (a0, ⟨#[]⟩, false) else some (a0.extract 0 (Lib.indexByte a0.data.toList c).toNat, a0.extract ((Lib.indexByte a0.data.toList c).toNat + 1) a0.size, true)) else none
  | _ => none
theorem indexByte_lt (l : List UInt8) (c : UInt8) (h : 0 ≤ Lib.indexByte l c) : (Lib.indexByte l c).toNat < l.length := by
  obtain ⟨o, ho⟩ : ∃ o : Nat, Lib.indexByte l c = o := ⟨(Lib.indexByte l c).toNat, by omega⟩
  have := (Lib.indexByte_some ho).1
  rw [ho]
  exact (List.getElem?_eq_some_iff.1 this).1
set_option maxHeartbeats 2000000 in
set_option maxRecDepth 100000 in
theorem stringslite_Cut.calls (s : ByteArray) (c : UInt8) (r : ByteArray × ByteArray × Bool) (w : World) (h : strings_Cut.f s ⟨#[c]⟩ = some r) :
    Calls Tryz.prog 102 #[.string s, .string ⟨#[c]⟩] w fun e w' => e = .returned (.tuple #[.string r.1, .string r.2.1, .bool r.2.2]) ∧ Drawn0 w w' := by
  have h' : (if s.size ≤ 9223372036854775806 then (if Lib.indexByte s.data.toList c < 0 then some (s, (⟨#[]⟩ : ByteArray), false) else some (s.extract 0 (Lib.indexByte s.data.toList c).toNat, s.extract ((Lib.indexByte s.data.toList c).toNat + 1) s.size, true)) else none) = some r := h
  clear h
  by_cases hm : ¬ s.size ≤ 9223372036854775806
  · rw [if_neg hm] at h'; cases h'
  have hm1 := Decidable.not_not.mp hm
  rw [if_pos hm1] at h'
  clear hm
  by_cases hneg : Lib.indexByte s.data.toList c < 0
  · rw [if_pos hneg] at h'
    obtain rfl := Option.some.inj h'
    clear h'
    have hx : Lib.indexByte s.data.toList c = -1 := by have := Lib.indexByte_ge s.data.toList c; omega
    go_enter Tryz.func102, Tryz.ntmps102
    go_wp2_with (go_at_call 128; refine (Tryz.stringslite_Index_one s c _).mono ?_; rintro e w' ⟨rfl, rfl⟩; rw [hx])
    go_ret3
    exact ⟨rfl, Drawn0.refl _⟩
  · rw [if_neg hneg] at h'
    obtain rfl := Option.some.inj h'
    clear h'
    have hlt := indexByte_lt s.data.toList c (by omega)
    rw [data_length] at hlt
    obtain ⟨i, hi⟩ : ∃ i : Nat, Lib.indexByte s.data.toList c = i := ⟨(Lib.indexByte s.data.toList c).toNat, by omega⟩
    rw [hi] at hlt ⊢
    have hlt' : i < s.size := by omega
    clear hlt hneg
    have c1 : (0 : Int) ≤ (i : Int) := by omega
    have c2 : (i : Int) ≤ (s.size : Int) := by omega
    have c3 : (0 : Int) ≤ (i : Int) + 1 := by omega
    have c4 : (i : Int) + 1 ≤ (s.size : Int) := by omega
    go_enter Tryz.func102, Tryz.ntmps102
    go_wp2_with (go_at_call 128; refine (Tryz.stringslite_Index_one s c _).mono ?_; rintro e w' ⟨rfl, rfl⟩; rw [hi])
    go_region
    go_wp2
    go_ret3
    exact ⟨rfl, (Drawn0.refl _).step 1⟩
set_option maxHeartbeats 2000000 in
set_option maxRecDepth 100000 in
theorem strings_Cut.calls (a0 a1 : ByteArray) (r1 r2 : ByteArray) (r3 : Bool) (w : World) (h : strings_Cut.f a0 a1 = some (r1, r2, r3)) :
    Calls Tryz.prog 67 #[.string a0, .string a1] w fun e w' => e = .returned (.tuple #[.string r1, .string r2, .bool r3]) ∧ Drawn0 w w' := by
  obtain ⟨c, rfl⟩ : ∃ c, a1 = ⟨#[c]⟩ := by
    rcases a1 with ⟨⟨l⟩⟩
    match l, h with
    | [], h => simp [strings_Cut.f] at h
    | [c], _ => exact ⟨c, rfl⟩
    | _ :: _ :: _, h => simp [strings_Cut.f] at h
  have H := Aside0.mk (stringslite_Cut.calls a0 c (r1, r2, r3) w h)
  clear h
  go_enter Tryz.func67, Tryz.ntmps67
  go_wp2_with (go_at_call 102; refine H.out.mono ?_; rintro e w' ⟨rfl, n, rfl⟩)
  go_ret3
  exact ⟨rfl, n, rfl⟩
end Go.Proofs.YtacgmcmnnogbbaaGreatDoor.PX

namespace Go.Proofs.YtacgmcmnnogbbaaGreatDoor.PX
open Go.RowKit Go.Proofs.YtacgmcmnnogbbaaGreatDoorW.PrintWords Go.Proofs.YtacgmcmnnogbbaaGreatDoorW.PrintLast Go.Proofs.YtacgmcmnnogbbaaGreatDoorW.PrintMore
attribute [local go_sem] max2_int min2_int max_two min_two max_three min_three max_four min_four
set_option linter.unusedVariables false
set_option linter.unusedSimpArgs false
def part_span.j0 : Nat → Int → ByteArray → ByteArray → Int → Int → Bool → Option (Int × Int × Bool)
 | 0, _, _, _, _, _, _ => none
 | k + 1, x1, x6, x7, x9, x11, x29 => if x29 = true then (some (0, 0, false)) else (if x6.toList = ([] : List UInt8) then (some (mx (wrap64 (x1 - x11)) 0, x1, true)) else (if x7.toList = ([] : List UInt8) then (some (x9, x1, true)) else (if x11 ≥ x1 then (some (x9, x1, true)) else (some (x9, wrap64 (x11 + 1), true)))))
def part_span.f (k : Nat) (a0 : ByteArray) (a1 : Int) : Option (Int × Int × Bool) := (strings_Cut.f a0 (⟨#[45]⟩ : ByteArray)).bind fun bt102 => ((part_number.f k bt102.1).bind fun bt105 => ((part_number.f k bt102.2.1).bind fun bt107 => (if bt102.2.2 = true then (if bt102.1.toList = ([] : List UInt8) then (if bt102.2.1.toList = ([] : List UInt8) then (part_span.j0 k a1 bt102.1 bt102.2.1 bt105.1 bt107.1 true) else (if bt107.2 = true then (if bt105.2 = true then (part_span.j0 k a1 bt102.1 bt102.2.1 bt105.1 bt107.1 (decide (bt105.1 > bt107.1))) else (part_span.j0 k a1 bt102.1 bt102.2.1 bt105.1 bt107.1 false)) else (part_span.j0 k a1 bt102.1 bt102.2.1 bt105.1 bt107.1 true))) else (if bt105.2 = true then (if bt102.2.1.toList = ([] : List UInt8) then (if bt107.2 = true then (part_span.j0 k a1 bt102.1 bt102.2.1 bt105.1 bt107.1 (decide (bt105.1 > bt107.1))) else (part_span.j0 k a1 bt102.1 bt102.2.1 bt105.1 bt107.1 false)) else (if bt107.2 = true then (part_span.j0 k a1 bt102.1 bt102.2.1 bt105.1 bt107.1 (decide (bt105.1 > bt107.1))) else (part_span.j0 k a1 bt102.1 bt102.2.1 bt105.1 bt107.1 true))) else (part_span.j0 k a1 bt102.1 bt102.2.1 bt105.1 bt107.1 true))) else (part_span.j0 k a1 bt102.1 bt102.2.1 bt105.1 bt107.1 true))))
set_option maxHeartbeats 8000000 in
set_option maxRecDepth 100000 in
theorem part_span.calls (k : Nat) (a0 : ByteArray) (a1 : Int) (r1 : Int) (r2 : Int) (r3 : Bool) (w : World) (h : part_span.f k a0 a1 = some (r1, r2, r3)) :
  Calls Tryz.prog 30 #[.string a0, .int .i64 a1] w fun e w' => e = .returned (.tuple #[.agg #[.int .i64 r1, .int .i64 r2], .bool r3]) ∧ Below w.heap.size w w' := by
 have hu56 := Tryz.underlying56
 have HB := Aside0.mk (Below.refl w.heap.size w)
 have H : ((strings_Cut.f a0 (⟨#[45]⟩ : ByteArray)).bind fun bt102 => ((part_number.f k bt102.1).bind fun bt105 => ((part_number.f k bt102.2.1).bind fun bt107 => (if bt102.2.2 = true then (if bt102.1.toList = ([] : List UInt8) then (if bt102.2.1.toList = ([] : List UInt8) then (part_span.j0 k a1 bt102.1 bt102.2.1 bt105.1 bt107.1 true) else (if bt107.2 = true then (if bt105.2 = true then (part_span.j0 k a1 bt102.1 bt102.2.1 bt105.1 bt107.1 (decide (bt105.1 > bt107.1))) else (part_span.j0 k a1 bt102.1 bt102.2.1 bt105.1 bt107.1 false)) else (part_span.j0 k a1 bt102.1 bt102.2.1 bt105.1 bt107.1 true))) else (if bt105.2 = true then (if bt102.2.1.toList = ([] : List UInt8) then (if bt107.2 = true then (part_span.j0 k a1 bt102.1 bt102.2.1 bt105.1 bt107.1 (decide (bt105.1 > bt107.1))) else (part_span.j0 k a1 bt102.1 bt102.2.1 bt105.1 bt107.1 false)) else (if bt107.2 = true then (part_span.j0 k a1 bt102.1 bt102.2.1 bt105.1 bt107.1 (decide (bt105.1 > bt107.1))) else (part_span.j0 k a1 bt102.1 bt102.2.1 bt105.1 bt107.1 true))) else (part_span.j0 k a1 bt102.1 bt102.2.1 bt105.1 bt107.1 true))) else (part_span.j0 k a1 bt102.1 bt102.2.1 bt105.1 bt107.1 true))))) = some (r1, r2, r3) := h
 clear h
 replace H := Option.bind_eq_some_iff.mp H
 obtain ⟨⟨t102, t103, t104⟩, A30, H⟩ := H
 replace H : ((part_number.f k t102).bind fun bt105 => ((part_number.f k t103).bind fun bt107 => (if t104 = true then (if t102.toList = ([] : List UInt8) then (if t103.toList = ([] : List UInt8) then (part_span.j0 k a1 t102 t103 bt105.1 bt107.1 true) else (if bt107.2 = true then (if bt105.2 = true then (part_span.j0 k a1 t102 t103 bt105.1 bt107.1 (decide (bt105.1 > bt107.1))) else (part_span.j0 k a1 t102 t103 bt105.1 bt107.1 false)) else (part_span.j0 k a1 t102 t103 bt105.1 bt107.1 true))) else (if bt105.2 = true then (if t103.toList = ([] : List UInt8) then (if bt107.2 = true then (part_span.j0 k a1 t102 t103 bt105.1 bt107.1 (decide (bt105.1 > bt107.1))) else (part_span.j0 k a1 t102 t103 bt105.1 bt107.1 false)) else (if bt107.2 = true then (part_span.j0 k a1 t102 t103 bt105.1 bt107.1 (decide (bt105.1 > bt107.1))) else (part_span.j0 k a1 t102 t103 bt105.1 bt107.1 true))) else (part_span.j0 k a1 t102 t103 bt105.1 bt107.1 true))) else (part_span.j0 k a1 t102 t103 bt105.1 bt107.1 true)))) = some (r1, r2, r3) := H
 have A3 := Aside0.mk A30
 clear A30
 replace H := Option.bind_eq_some_iff.mp H
 obtain ⟨⟨t105, t106⟩, A40, H⟩ := H
 replace H : ((part_number.f k t103).bind fun bt107 => (if t104 = true then (if t102.toList = ([] : List UInt8) then (if t103.toList = ([] : List UInt8) then (part_span.j0 k a1 t102 t103 t105 bt107.1 true) else (if bt107.2 = true then (if t106 = true then (part_span.j0 k a1 t102 t103 t105 bt107.1 (decide (t105 > bt107.1))) else (part_span.j0 k a1 t102 t103 t105 bt107.1 false)) else (part_span.j0 k a1 t102 t103 t105 bt107.1 true))) else (if t106 = true then (if t103.toList = ([] : List UInt8) then (if bt107.2 = true then (part_span.j0 k a1 t102 t103 t105 bt107.1 (decide (t105 > bt107.1))) else (part_span.j0 k a1 t102 t103 t105 bt107.1 false)) else (if bt107.2 = true then (part_span.j0 k a1 t102 t103 t105 bt107.1 (decide (t105 > bt107.1))) else (part_span.j0 k a1 t102 t103 t105 bt107.1 true))) else (part_span.j0 k a1 t102 t103 t105 bt107.1 true))) else (part_span.j0 k a1 t102 t103 t105 bt107.1 true))) = some (r1, r2, r3) := H
 have A4 := Aside0.mk A40
 clear A40
 replace H := Option.bind_eq_some_iff.mp H
 obtain ⟨⟨t107, t108⟩, A50, H⟩ := H
 replace H : (if t104 = true then (if t102.toList = ([] : List UInt8) then (if t103.toList = ([] : List UInt8) then (part_span.j0 k a1 t102 t103 t105 t107 true) else (if t108 = true then (if t106 = true then (part_span.j0 k a1 t102 t103 t105 t107 (decide (t105 > t107))) else (part_span.j0 k a1 t102 t103 t105 t107 false)) else (part_span.j0 k a1 t102 t103 t105 t107 true))) else (if t106 = true then (if t103.toList = ([] : List UInt8) then (if t108 = true then (part_span.j0 k a1 t102 t103 t105 t107 (decide (t105 > t107))) else (part_span.j0 k a1 t102 t103 t105 t107 false)) else (if t108 = true then (part_span.j0 k a1 t102 t103 t105 t107 (decide (t105 > t107))) else (part_span.j0 k a1 t102 t103 t105 t107 true))) else (part_span.j0 k a1 t102 t103 t105 t107 true))) else (part_span.j0 k a1 t102 t103 t105 t107 true)) = some (r1, r2, r3) := H
 have A5 := Aside0.mk A50
 clear A50
 have HC6 := Aside0.mk H
 clear H
 go_enter Tryz.func30, Tryz.ntmps30
 go_upto_region 4 with (first | ((with_reducible refine gate_dst (N := 4) rfl ?_); refine box_event ?hg (N := 4) ?hd (cs := #[.int .i64 0, .int .i64 0]) (t := 56) ?hr ?_; (case hd => rfl); (case hg => rfl); (case hr => first | (go_simp; done) | (go_simp; rfl)); intro gb101 hg w7 hbox hb; have n0_ := Aside0.mk (below_step (by repeat (first | (with_reducible first | exact HB.out | apply below_alloc | apply pw_below_drewN | apply below_drew1) | exact HB.out)) hb); have n1_ := Aside0.mk (hbox); have n2_ := Aside0.mk ((by rw [hg]; exact (below_size (by repeat (first | (with_reducible first | exact HB.out | apply below_alloc | apply pw_below_drewN | apply below_drew1) | exact HB.out))) : w.heap.size ≤ gb101)); have n3_ := Aside0.mk ((by rw [hg]; exact (below_size (by repeat (first | (with_reducible first | exact HB.out | apply below_alloc | apply pw_below_drewN | apply below_drew1) | exact HB.out))) : w.heap.size ≤ gb101)); clear HB; have HB := n0_; have BK101 := n1_; have GW101 := n2_; have GE101 := n3_; clear n0_ n1_ n2_ n3_; clear hb hbox hg) | ((with_reducible refine gate_callee (f := 67) rfl ?_); refine goesL_ (some 15) rfl rfl Tryz.func67 (by kernel_rfl) rfl #[.string a0, .string (⟨#[45]⟩ : ByteArray)] rfl (by (try simp only [List.map_toArray, List.map_cons, List.map_nil]); first | done | rfl | (simp only [List.length_drop, List.length_take]; rfl)) ?_; (with_reducible refine (strings_Cut.calls a0 (⟨#[45]⟩ : ByteArray) t102 t103 t104 _ A3.out).mono ?_); rintro e w' ⟨rfl, ⟨nd, rfl⟩⟩; refine ⟨_, rfl, ?_⟩) | ((with_reducible refine gate_callee (f := 68) rfl ?_); refine goesL_ (some 21) rfl rfl Tryz.func68 (by kernel_rfl) rfl #[.string t102] rfl (by (try simp only [List.map_toArray, List.map_cons, List.map_nil]); first | done | rfl | (simp only [List.length_drop, List.length_take]; rfl)) ?_; (with_reducible refine (part_number.calls k t102 t105 t106 _ A4.out).mono ?_); rintro e w' ⟨rfl, ⟨nd, rfl⟩⟩; refine ⟨_, rfl, ?_⟩) | ((with_reducible refine gate_callee (f := 68) rfl ?_); refine goesL_ (some 26) rfl rfl Tryz.func68 (by kernel_rfl) rfl #[.string t103] rfl (by (try simp only [List.map_toArray, List.map_cons, List.map_nil]); first | done | rfl | (simp only [List.length_drop, List.length_take]; rfl)) ?_; (with_reducible refine (part_number.calls k t103 t107 t108 _ A5.out).mono ?_); rintro e w' ⟨rfl, ⟨nd, rfl⟩⟩; refine ⟨_, rfl, ?_⟩))
 (try simp only [Act.put, List.setIfInBounds_toArray, List.set_cons_zero, List.set_cons_succ])
 go_cut [29] (fun v29 wc => ∃ (kq : Nat) (x29_5 : Bool), v29 = .bool x29_5 ∧ Aside0 (part_span.j0 kq a1 t102 t103 t105 t107 x29_5 = some (r1, r2, r3)) ∧ Aside0 (kq ≤ k) ∧ Aside0 (wc.heap[gb101]? = some (.cells #[.int .i64 0, .int .i64 0] 56 (0, 0))) ∧ Aside0 (Below w.heap.size w wc))
 case first =>
  have H := HC6.out
  clear HC6
  by_cases c8 : t104 = true
  ·subst c8
   have H1 : (if t102.toList = ([] : List UInt8) then (if t103.toList = ([] : List UInt8) then (part_span.j0 k a1 t102 t103 t105 t107 true) else (if t108 = true then (if t106 = true then (part_span.j0 k a1 t102 t103 t105 t107 (decide (t105 > t107))) else (part_span.j0 k a1 t102 t103 t105 t107 false)) else (part_span.j0 k a1 t102 t103 t105 t107 true))) else (if t106 = true then (if t103.toList = ([] : List UInt8) then (if t108 = true then (part_span.j0 k a1 t102 t103 t105 t107 (decide (t105 > t107))) else (part_span.j0 k a1 t102 t103 t105 t107 false)) else (if t108 = true then (part_span.j0 k a1 t102 t103 t105 t107 (decide (t105 > t107))) else (part_span.j0 k a1 t102 t103 t105 t107 true))) else (part_span.j0 k a1 t102 t103 t105 t107 true))) = some (r1, r2, r3) := by rw [if_pos rfl] at H; exact H
   clear H
   have H := H1
   clear H1
   by_cases c9 : t102.toList = ([] : List UInt8)
   ·rw [if_pos c9] at H
    have c9b0 : (t102.toList == ([] : List UInt8)) = true := beq_iff_eq.mpr c9
    have c9b1 : (t102.toList != ([] : List UInt8)) = false := bne_eq_false_iff_eq.mpr c9
    clear c9
    (first | rw [c9b0] | (simp only [i64_w, i32_w]; rw [c9b0]) | skip)
    by_cases c10 : t103.toList = ([] : List UInt8)
    ·rw [if_pos c10] at H
     have c10b0 : (t103.toList == ([] : List UInt8)) = true := beq_iff_eq.mpr c10
     have c10b1 : (t103.toList != ([] : List UInt8)) = false := bne_eq_false_iff_eq.mpr c10
     clear c10
     have H' := Aside0.mk H
     clear H
     go_wp2
     go_meet
     case rel => exact ⟨_, (true), (by first | rfl | (simp; done) | (simp [*]; done)), H', ⟨by first | omega | exact Nat.le_refl _⟩, ⟨by (with_reducible repeat (first | refine blk_drewN ?_ _ | refine blk_drew ?_ | refine blk_alloc ?_ _)); exact BK101.out⟩, ⟨by repeat (first | (with_reducible first | exact HB.out | apply below_alloc | apply pw_below_drewN | apply below_drew1 | refine below_set ?_ GE101.out) | exact HB.out)⟩⟩
    ·rw [if_neg c10] at H
     have c10b0 : (t103.toList == ([] : List UInt8)) = false := beq_eq_false_iff_ne.mpr c10
     have c10b1 : (t103.toList != ([] : List UInt8)) = true := bne_iff_ne.mpr c10
     by_cases c11 : t108 = true
     ·subst c11
      have H1 : (if t106 = true then (part_span.j0 k a1 t102 t103 t105 t107 (decide (t105 > t107))) else (part_span.j0 k a1 t102 t103 t105 t107 false)) = some (r1, r2, r3) := by rw [if_pos rfl] at H; exact H
      clear H
      have H := H1
      clear H1
      by_cases c12 : t106 = true
      ·subst c12
       have H1 : (part_span.j0 k a1 t102 t103 t105 t107 (decide (t105 > t107))) = some (r1, r2, r3) := by rw [if_pos rfl] at H; exact H
       clear H
       have H := H1
       clear H1
       have H' := Aside0.mk H
       clear H
       go_wp2
       go_meet
       case rel => exact ⟨_, (decide (t105 > t107)), (by first | rfl | (simp; done) | (simp [*]; done)), H', ⟨by first | omega | exact Nat.le_refl _⟩, ⟨by (with_reducible repeat (first | refine blk_drewN ?_ _ | refine blk_drew ?_ | refine blk_alloc ?_ _)); exact BK101.out⟩, ⟨by repeat (first | (with_reducible first | exact HB.out | apply below_alloc | apply pw_below_drewN | apply below_drew1 | refine below_set ?_ GE101.out) | exact HB.out)⟩⟩
      ·replace c12 := Bool.eq_false_iff.mpr c12
       subst c12
       have H1 : (part_span.j0 k a1 t102 t103 t105 t107 false) = some (r1, r2, r3) := by rw [if_neg (show ¬ (false = true) by decide)] at H; exact H
       clear H
       have H := H1
       clear H1
       have H' := Aside0.mk H
       clear H
       go_wp2
       go_meet
       case rel => exact ⟨_, (false), (by first | rfl | (simp; done) | (simp [*]; done)), H', ⟨by first | omega | exact Nat.le_refl _⟩, ⟨by (with_reducible repeat (first | refine blk_drewN ?_ _ | refine blk_drew ?_ | refine blk_alloc ?_ _)); exact BK101.out⟩, ⟨by repeat (first | (with_reducible first | exact HB.out | apply below_alloc | apply pw_below_drewN | apply below_drew1 | refine below_set ?_ GE101.out) | exact HB.out)⟩⟩
     ·replace c11 := Bool.eq_false_iff.mpr c11
      subst c11
      have H1 : (part_span.j0 k a1 t102 t103 t105 t107 true) = some (r1, r2, r3) := by rw [if_neg (show ¬ (false = true) by decide)] at H; exact H
      clear H
      have H := H1
      clear H1
      have H' := Aside0.mk H
      clear H
      go_wp2
      go_meet
      case rel => exact ⟨_, (true), (by first | rfl | (simp; done) | (simp [*]; done)), H', ⟨by first | omega | exact Nat.le_refl _⟩, ⟨by (with_reducible repeat (first | refine blk_drewN ?_ _ | refine blk_drew ?_ | refine blk_alloc ?_ _)); exact BK101.out⟩, ⟨by repeat (first | (with_reducible first | exact HB.out | apply below_alloc | apply pw_below_drewN | apply below_drew1 | refine below_set ?_ GE101.out) | exact HB.out)⟩⟩
   ·rw [if_neg c9] at H
    have c9b0 : (t102.toList == ([] : List UInt8)) = false := beq_eq_false_iff_ne.mpr c9
    have c9b1 : (t102.toList != ([] : List UInt8)) = true := bne_iff_ne.mpr c9
    (first | rw [c9b0] | (simp only [i64_w, i32_w]; rw [c9b0]) | skip)
    by_cases c13 : t106 = true
    ·subst c13
     have H1 : (if t103.toList = ([] : List UInt8) then (if t108 = true then (part_span.j0 k a1 t102 t103 t105 t107 (decide (t105 > t107))) else (part_span.j0 k a1 t102 t103 t105 t107 false)) else (if t108 = true then (part_span.j0 k a1 t102 t103 t105 t107 (decide (t105 > t107))) else (part_span.j0 k a1 t102 t103 t105 t107 true))) = some (r1, r2, r3) := by rw [if_pos rfl] at H; exact H
     clear H
     have H := H1
     clear H1
     by_cases c14 : t103.toList = ([] : List UInt8)
     ·rw [if_pos c14] at H
      have c14b0 : (t103.toList == ([] : List UInt8)) = true := beq_iff_eq.mpr c14
      have c14b1 : (t103.toList != ([] : List UInt8)) = false := bne_eq_false_iff_eq.mpr c14
      clear c14
      by_cases c15 : t108 = true
      ·subst c15
       have H1 : (part_span.j0 k a1 t102 t103 t105 t107 (decide (t105 > t107))) = some (r1, r2, r3) := by rw [if_pos rfl] at H; exact H
       clear H
       have H := H1
       clear H1
       have H' := Aside0.mk H
       clear H
       go_wp2
       go_meet
       case rel => exact ⟨_, (decide (t105 > t107)), (by first | rfl | (simp; done) | (simp [*]; done)), H', ⟨by first | omega | exact Nat.le_refl _⟩, ⟨by (with_reducible repeat (first | refine blk_drewN ?_ _ | refine blk_drew ?_ | refine blk_alloc ?_ _)); exact BK101.out⟩, ⟨by repeat (first | (with_reducible first | exact HB.out | apply below_alloc | apply pw_below_drewN | apply below_drew1 | refine below_set ?_ GE101.out) | exact HB.out)⟩⟩
      ·replace c15 := Bool.eq_false_iff.mpr c15
       subst c15
       have H1 : (part_span.j0 k a1 t102 t103 t105 t107 false) = some (r1, r2, r3) := by rw [if_neg (show ¬ (false = true) by decide)] at H; exact H
       clear H
       have H := H1
       clear H1
       have H' := Aside0.mk H
       clear H
       go_wp2
       go_meet
       case rel => exact ⟨_, (false), (by first | rfl | (simp; done) | (simp [*]; done)), H', ⟨by first | omega | exact Nat.le_refl _⟩, ⟨by (with_reducible repeat (first | refine blk_drewN ?_ _ | refine blk_drew ?_ | refine blk_alloc ?_ _)); exact BK101.out⟩, ⟨by repeat (first | (with_reducible first | exact HB.out | apply below_alloc | apply pw_below_drewN | apply below_drew1 | refine below_set ?_ GE101.out) | exact HB.out)⟩⟩
     ·rw [if_neg c14] at H
      have c14b0 : (t103.toList == ([] : List UInt8)) = false := beq_eq_false_iff_ne.mpr c14
      have c14b1 : (t103.toList != ([] : List UInt8)) = true := bne_iff_ne.mpr c14
      by_cases c16 : t108 = true
      ·subst c16
       have H1 : (part_span.j0 k a1 t102 t103 t105 t107 (decide (t105 > t107))) = some (r1, r2, r3) := by rw [if_pos rfl] at H; exact H
       clear H
       have H := H1
       clear H1
       have H' := Aside0.mk H
       clear H
       go_wp2
       go_meet
       case rel => exact ⟨_, (decide (t105 > t107)), (by first | rfl | (simp; done) | (simp [*]; done)), H', ⟨by first | omega | exact Nat.le_refl _⟩, ⟨by (with_reducible repeat (first | refine blk_drewN ?_ _ | refine blk_drew ?_ | refine blk_alloc ?_ _)); exact BK101.out⟩, ⟨by repeat (first | (with_reducible first | exact HB.out | apply below_alloc | apply pw_below_drewN | apply below_drew1 | refine below_set ?_ GE101.out) | exact HB.out)⟩⟩
      ·replace c16 := Bool.eq_false_iff.mpr c16
       subst c16
       have H1 : (part_span.j0 k a1 t102 t103 t105 t107 true) = some (r1, r2, r3) := by rw [if_neg (show ¬ (false = true) by decide)] at H; exact H
       clear H
       have H := H1
       clear H1
       have H' := Aside0.mk H
       clear H
       go_wp2
       go_meet
       case rel => exact ⟨_, (true), (by first | rfl | (simp; done) | (simp [*]; done)), H', ⟨by first | omega | exact Nat.le_refl _⟩, ⟨by (with_reducible repeat (first | refine blk_drewN ?_ _ | refine blk_drew ?_ | refine blk_alloc ?_ _)); exact BK101.out⟩, ⟨by repeat (first | (with_reducible first | exact HB.out | apply below_alloc | apply pw_below_drewN | apply below_drew1 | refine below_set ?_ GE101.out) | exact HB.out)⟩⟩
    ·replace c13 := Bool.eq_false_iff.mpr c13
     subst c13
     have H1 : (part_span.j0 k a1 t102 t103 t105 t107 true) = some (r1, r2, r3) := by rw [if_neg (show ¬ (false = true) by decide)] at H; exact H
     clear H
     have H := H1
     clear H1
     have H' := Aside0.mk H
     clear H
     go_wp2
     go_meet
     case rel => exact ⟨_, (true), (by first | rfl | (simp; done) | (simp [*]; done)), H', ⟨by first | omega | exact Nat.le_refl _⟩, ⟨by (with_reducible repeat (first | refine blk_drewN ?_ _ | refine blk_drew ?_ | refine blk_alloc ?_ _)); exact BK101.out⟩, ⟨by repeat (first | (with_reducible first | exact HB.out | apply below_alloc | apply pw_below_drewN | apply below_drew1 | refine below_set ?_ GE101.out) | exact HB.out)⟩⟩
  ·replace c8 := Bool.eq_false_iff.mpr c8
   subst c8
   have H1 : (part_span.j0 k a1 t102 t103 t105 t107 true) = some (r1, r2, r3) := by rw [if_neg (show ¬ (false = true) by decide)] at H; exact H
   clear H
   have H := H1
   clear H1
   have H' := Aside0.mk H
   clear H
   go_wp2
   go_meet
   case rel => exact ⟨_, (true), (by first | rfl | (simp; done) | (simp [*]; done)), H', ⟨by first | omega | exact Nat.le_refl _⟩, ⟨by (with_reducible repeat (first | refine blk_drewN ?_ _ | refine blk_drew ?_ | refine blk_alloc ?_ _)); exact BK101.out⟩, ⟨by repeat (first | (with_reducible first | exact HB.out | apply below_alloc | apply pw_below_drewN | apply below_drew1 | refine below_set ?_ GE101.out) | exact HB.out)⟩⟩
 case rest =>
  clear HC6
  try clear c1
  try clear p2
  try clear c3
  try clear c6
  try clear c8
  try clear c9
  try clear c9b0
  try clear c9b1
  try clear c10
  try clear c10b0
  try clear c10b1
  try clear c11
  try clear c12
  try clear c13
  try clear c14
  try clear c14b0
  try clear c14b1
  try clear c15
  try clear c16
  obtain ⟨kq, x29_5, rfl, HA, HJ5, BK101, HB⟩ := hcut
  cases kq with
  | zero => exact absurd HA.out (by simp [part_span.j0])
  | succ kj5 =>
   have H := HA.out
   clear HA
   simp only [part_span.j0] at H
   by_cases c17 : x29_5 = true
   ·subst c17
    have H1 : (some (0, 0, false)) = some (r1, r2, r3) := by rw [if_pos rfl] at H; exact H
    clear H
    have H := H1
    clear H1
    simp only [Option.some.injEq, Prod.mk.injEq] at H
    obtain ⟨rfl, rfl, rfl⟩ := H
    have hcz18_0 : wc.cell? ⟨gb101, 0, none⟩ = some (.int .i64 0) := (blk_cell BK101.out 0).trans rfl
    have hcz18_1 : wc.cell? ⟨gb101, 1, none⟩ = some (.int .i64 0) := (blk_cell BK101.out 1).trans rfl
    have hfz18_0 := blk_frozen BK101.out 0
    have hfz18_1 := blk_frozen BK101.out 1
    go_wp2
    refine bodyPost_ret (results_ct rfl _ _ gb101 56 #[.int .i64 0, .int .i64 0] (0, 0) _ rfl (by (with_reducible repeat (first | refine blk_drewN ?_ _ | refine blk_drew ?_ | refine blk_alloc ?_ _)); refine blk_put (cs := #[.int .i64 0, .int .i64 0]) ?_ 1 _ rfl; (with_reducible repeat (first | refine blk_drewN ?_ _ | refine blk_drew ?_ | refine blk_alloc ?_ _)); refine blk_put (cs := #[.int .i64 0, .int .i64 0]) ?_ 0 _ rfl; (with_reducible repeat (first | refine blk_drewN ?_ _ | refine blk_drew ?_ | refine blk_alloc ?_ _)); exact BK101.out) Tryz.underlying56 rfl (by kernel_rfl)) rfl ?_
    exact ⟨by first | rfl | (simp [errW_none, errW_some] <;> rfl) | (simp [*, errW_none, errW_some] <;> rfl), by repeat (first | (with_reducible first | exact HB.out | apply below_alloc | apply pw_below_drewN | apply below_drew1 | refine below_set ?_ GE101.out) | exact HB.out)⟩
   ·replace c17 := Bool.eq_false_iff.mpr c17
    subst c17
    have H1 : (if t102.toList = ([] : List UInt8) then (some (mx (wrap64 (a1 - t107)) 0, a1, true)) else (if t103.toList = ([] : List UInt8) then (some (t105, a1, true)) else (if t107 ≥ a1 then (some (t105, a1, true)) else (some (t105, wrap64 (t107 + 1), true))))) = some (r1, r2, r3) := by rw [if_neg (show ¬ (false = true) by decide)] at H; exact H
    clear H
    have H := H1
    clear H1
    by_cases c19 : t102.toList = ([] : List UInt8)
    ·rw [if_pos c19] at H
     have c19b0 : (t102.toList == ([] : List UInt8)) = true := beq_iff_eq.mpr c19
     have c19b1 : (t102.toList != ([] : List UInt8)) = false := bne_eq_false_iff_eq.mpr c19
     clear c19
     obtain ⟨ji20, hji20⟩ : ∃ j_ : Int, (mx (wrap64 (a1 - t107)) 0) = j_ := ⟨_, rfl⟩
     replace H : (some (ji20, a1, true)) = some (r1, r2, r3) := by first | (rw [hji20] at H; exact H) | (simp only [hji20] at H ⊢; exact H)
     have hji20_ : (if (wrap64 (a1 - t107)) < 0 then 0 else (wrap64 (a1 - t107))) = ji20 := hji20
     simp only [Option.some.injEq, Prod.mk.injEq] at H
     obtain ⟨rfl, rfl, rfl⟩ := H
     have hcz21_0 : wc.cell? ⟨gb101, 0, none⟩ = some (.int .i64 0) := (blk_cell BK101.out 0).trans rfl
     have hcz21_1 : wc.cell? ⟨gb101, 1, none⟩ = some (.int .i64 0) := (blk_cell BK101.out 1).trans rfl
     have hfz21_0 := blk_frozen BK101.out 0
     have hfz21_1 := blk_frozen BK101.out 1
     go_wp2
     refine bodyPost_ret (results_ct rfl _ _ gb101 56 #[.int .i64 ji20, .int .i64 a1] (0, 0) _ rfl (by (with_reducible repeat (first | refine blk_drewN ?_ _ | refine blk_drew ?_ | refine blk_alloc ?_ _)); refine blk_put (cs := #[.int .i64 ji20, .int .i64 0]) ?_ 1 _ rfl; (with_reducible repeat (first | refine blk_drewN ?_ _ | refine blk_drew ?_ | refine blk_alloc ?_ _)); refine blk_put (cs := #[.int .i64 0, .int .i64 0]) ?_ 0 _ rfl; (with_reducible repeat (first | refine blk_drewN ?_ _ | refine blk_drew ?_ | refine blk_alloc ?_ _)); exact BK101.out) Tryz.underlying56 rfl (by kernel_rfl)) rfl ?_
     exact ⟨by first | rfl | (simp [errW_none, errW_some] <;> rfl) | (simp only [← hji20]; first | rfl | (simp [errW_none, errW_some] <;> rfl)) | (simp [*, errW_none, errW_some] <;> rfl), by repeat (first | (with_reducible first | exact HB.out | apply below_alloc | apply pw_below_drewN | apply below_drew1 | refine below_set ?_ GE101.out) | exact HB.out)⟩
    ·rw [if_neg c19] at H
     have c19b0 : (t102.toList == ([] : List UInt8)) = false := beq_eq_false_iff_ne.mpr c19
     have c19b1 : (t102.toList != ([] : List UInt8)) = true := bne_iff_ne.mpr c19
     by_cases c22 : t103.toList = ([] : List UInt8)
     ·rw [if_pos c22] at H
      have c22b0 : (t103.toList == ([] : List UInt8)) = true := beq_iff_eq.mpr c22
      have c22b1 : (t103.toList != ([] : List UInt8)) = false := bne_eq_false_iff_eq.mpr c22
      clear c22
      simp only [Option.some.injEq, Prod.mk.injEq] at H
      obtain ⟨rfl, rfl, rfl⟩ := H
      have hcz23_0 : wc.cell? ⟨gb101, 0, none⟩ = some (.int .i64 0) := (blk_cell BK101.out 0).trans rfl
      have hcz23_1 : wc.cell? ⟨gb101, 1, none⟩ = some (.int .i64 0) := (blk_cell BK101.out 1).trans rfl
      have hfz23_0 := blk_frozen BK101.out 0
      have hfz23_1 := blk_frozen BK101.out 1
      go_wp2
      refine bodyPost_ret (results_ct rfl _ _ gb101 56 #[.int .i64 t105, .int .i64 a1] (0, 0) _ rfl (by (with_reducible repeat (first | refine blk_drewN ?_ _ | refine blk_drew ?_ | refine blk_alloc ?_ _)); refine blk_put (cs := #[.int .i64 t105, .int .i64 0]) ?_ 1 _ rfl; (with_reducible repeat (first | refine blk_drewN ?_ _ | refine blk_drew ?_ | refine blk_alloc ?_ _)); refine blk_put (cs := #[.int .i64 0, .int .i64 0]) ?_ 0 _ rfl; (with_reducible repeat (first | refine blk_drewN ?_ _ | refine blk_drew ?_ | refine blk_alloc ?_ _)); exact BK101.out) Tryz.underlying56 rfl (by kernel_rfl)) rfl ?_
      exact ⟨by first | rfl | (simp [errW_none, errW_some] <;> rfl) | (simp [*, errW_none, errW_some] <;> rfl), by repeat (first | (with_reducible first | exact HB.out | apply below_alloc | apply pw_below_drewN | apply below_drew1 | refine below_set ?_ GE101.out) | exact HB.out)⟩
     ·rw [if_neg c22] at H
      have c22b0 : (t103.toList == ([] : List UInt8)) = false := beq_eq_false_iff_ne.mpr c22
      have c22b1 : (t103.toList != ([] : List UInt8)) = true := bne_iff_ne.mpr c22
      by_cases c24 : t107 ≥ a1
      ·rw [if_pos c24] at H
       have c24b0 : decide (a1 ≤ t107) = true := decide_eq_true c24
       clear c24
       simp only [Option.some.injEq, Prod.mk.injEq] at H
       obtain ⟨rfl, rfl, rfl⟩ := H
       have hcz25_0 : wc.cell? ⟨gb101, 0, none⟩ = some (.int .i64 0) := (blk_cell BK101.out 0).trans rfl
       have hcz25_1 : wc.cell? ⟨gb101, 1, none⟩ = some (.int .i64 0) := (blk_cell BK101.out 1).trans rfl
       have hfz25_0 := blk_frozen BK101.out 0
       have hfz25_1 := blk_frozen BK101.out 1
       go_wp2
       refine bodyPost_ret (results_ct rfl _ _ gb101 56 #[.int .i64 t105, .int .i64 a1] (0, 0) _ rfl (by (with_reducible repeat (first | refine blk_drewN ?_ _ | refine blk_drew ?_ | refine blk_alloc ?_ _)); refine blk_put (cs := #[.int .i64 t105, .int .i64 0]) ?_ 1 _ rfl; (with_reducible repeat (first | refine blk_drewN ?_ _ | refine blk_drew ?_ | refine blk_alloc ?_ _)); refine blk_put (cs := #[.int .i64 0, .int .i64 0]) ?_ 0 _ rfl; (with_reducible repeat (first | refine blk_drewN ?_ _ | refine blk_drew ?_ | refine blk_alloc ?_ _)); exact BK101.out) Tryz.underlying56 rfl (by kernel_rfl)) rfl ?_
       exact ⟨by first | rfl | (simp [errW_none, errW_some] <;> rfl) | (simp [*, errW_none, errW_some] <;> rfl), by repeat (first | (with_reducible first | exact HB.out | apply below_alloc | apply pw_below_drewN | apply below_drew1 | refine below_set ?_ GE101.out) | exact HB.out)⟩
      ·rw [if_neg c24] at H
       have c24b0 : decide (a1 ≤ t107) = false := decide_eq_false c24
       clear c24
       simp only [Option.some.injEq, Prod.mk.injEq] at H
       obtain ⟨rfl, rfl, rfl⟩ := H
       have hcz26_0 : wc.cell? ⟨gb101, 0, none⟩ = some (.int .i64 0) := (blk_cell BK101.out 0).trans rfl
       have hcz26_1 : wc.cell? ⟨gb101, 1, none⟩ = some (.int .i64 0) := (blk_cell BK101.out 1).trans rfl
       have hfz26_0 := blk_frozen BK101.out 0
       have hfz26_1 := blk_frozen BK101.out 1
       go_wp2
       refine bodyPost_ret (results_ct rfl _ _ gb101 56 #[.int .i64 t105, .int .i64 (wrap64 (t107 + 1))] (0, 0) _ rfl (by (with_reducible repeat (first | refine blk_drewN ?_ _ | refine blk_drew ?_ | refine blk_alloc ?_ _)); refine blk_put (cs := #[.int .i64 t105, .int .i64 0]) ?_ 1 _ rfl; (with_reducible repeat (first | refine blk_drewN ?_ _ | refine blk_drew ?_ | refine blk_alloc ?_ _)); refine blk_put (cs := #[.int .i64 0, .int .i64 0]) ?_ 0 _ rfl; (with_reducible repeat (first | refine blk_drewN ?_ _ | refine blk_drew ?_ | refine blk_alloc ?_ _)); exact BK101.out) Tryz.underlying56 rfl (by kernel_rfl)) rfl ?_
       exact ⟨by first | rfl | (simp [errW_none, errW_some] <;> rfl) | (simp [*, errW_none, errW_some] <;> rfl), by repeat (first | (with_reducible first | exact HB.out | apply below_alloc | apply pw_below_drewN | apply below_drew1 | refine below_set ?_ GE101.out) | exact HB.out)⟩
end Go.Proofs.YtacgmcmnnogbbaaGreatDoor.PX

