import Derived.Test.YtacgmcmnnogbbaaGreatDoorPR4
import Derived.Test.YtacgmcmnnogbbaaGreatDoorPR10
import Derived.Test.YtacgmcmnnogbbaaGreatDoorPR11
namespace Go.Proofs.YtacgmcmnnogbbaaGreatDoor.PX
open Go.RowKit Go.Shelf Go.Proofs Go.Proofs.YtacgmcmnnogbbaaGreatDoorW.PrintWords Go.Proofs.YtacgmcmnnogbbaaGreatDoorW.PrintLast Go.Proofs.YtacgmcmnnogbbaaGreatDoorW.PrintMore
theorem max2_mx (k k' : IntKind) (x y : Int) : Builtin.max2 (.int k x) (.int k' y) = pure (.int k (mx x y)) := max2_int k k' x y
attribute [local go_sem] max2_mx max_two Oper.semAt_some
set_option linter.unusedVariables false
set_option linter.unusedSimpArgs false
def part_Parse.go (k : Nat) (size : Int) : List ByteArray → List S56 → Int → Option (List S56 × Int)
  | [], out, n => if n = 0 then some ([], 121) else some (out, 0)
  | p :: ps, out, n => (strings_Trim.f p ⟨#[32, 9]⟩).bind fun t => if t.toList = [] then part_Parse.go k size ps out n else
      (part_span.f k t size).bind fun x => if x.2.2 = false then some ([], 121) else if n + 1 > 10 then some ([], 121) else
        if x.1 < x.2.1 then part_Parse.go k size ps (out ++ [⟨x.1, x.2.1⟩]) (n + 1) else part_Parse.go k size ps out (n + 1)
def part_Parse.f (k : Nat) (a0 : ByteArray) (a1 : Int) : Option (List S56 × Int) :=
  if a0.size < 6 then some ([], 121) else (head_Same.f k (a0.extract 0 6) ⟨#[98, 121, 116, 101, 115, 61]⟩).bind fun b => if b = false then some ([], 121) else
    if a0.size ≤ 9223372036854775806 then part_Parse.go k (mx a1 0) (cuts 44 (a0.extract 6 a0.size)) [] 0 else none
def cells56 (xs : List S56) : List Value := xs.flatMap fun x => [.int .i64 x.f0, .int .i64 x.f1]
theorem cells56_snoc (xs : List S56) (x : S56) : cells56 (xs ++ [x]) = cells56 xs ++ [.int .i64 x.f0, .int .i64 x.f1] := by simp [cells56]
theorem reps56 {W : World} {base : Nat} {ok : Nat → Prop} : ∀ xs : List S56, Reps (k56.M W base ok) 2 xs (cells56 xs) := by
  intro xs
  obtain ⟨ys, rfl⟩ : ∃ ys : List S56, xs = ys.reverse := ⟨xs.reverse, by simp⟩
  induction ys with
  | nil => exact Reps.none _ _
  | cons x ys ih =>
    rw [List.reverse_cons, cells56_snoc]
    exact Reps.snoc ih (k56_mkM W base ok x) rfl
theorem R56_of_own {W : World} {base : Nat} {v : Value} {xs : List S56} (h : W.ownsRow base 56 2 v xs.length (cells56 xs)) : Kd.R k56 56 W base (fun _ => True) v xs :=
  ⟨fun _ _ => trivial, cells56 xs, h, reps56 xs⟩
set_option maxHeartbeats 4000000 in
set_option maxRecDepth 100000 in
theorem part_Parse.short (k : Nat) (a0 : ByteArray) (a1 : Int) (w : World) (h : a0.size < 6) :
    Calls Tryz.prog 9 #[.string a0, .int .i64 a1] w fun e w' => e = .returned (.tuple #[.slice none 0 0, .int .i64 121]) ∧ Below w.heap.size w w' := by
  have HB := Aside0.mk (Below.refl w.heap.size w)
  have c1 : (a0.size : Int) < 6 := by omega
  go_enter Tryz.func9, Tryz.ntmps9
  go_wp2
  have hres : Tryz.f9.results = #[.cell 4 22, .cell 5 24] := rfl
  refine bodyPost_ret (v := .tuple #[.slice none 0 0, .int .i64 121]) (by simp [results, hres, go_sem]) rfl ⟨rfl, ?_⟩
  exact (((Below.refl _ w).alloc (Nat.le_refl _) _).alloc (by simp) _).alloc (by simp; omega) _
theorem beq_empty {t : ByteArray} (h : t.toList = []) : t = ⟨#[]⟩ := by
  rw [ByteArray.toList_eq] at h
  exact ba_eq h
theorem keeps_below {W W' : World} (h : Below W.heap.size W W') : KeepsOthers W W' := ⟨h.size, fun k o hk _ => (h.block k (Array.getElem?_eq_some_iff.1 hk).1).trans hk⟩
theorem own_lower {W : World} {base base' : Nat} {e : TypeId} {size n : Nat} {v : Value} {xs : List Value} (h : W.ownsRow base e size v n xs) (hb : base' ≤ base) : W.ownsRow base' e size v n xs := by
  refine ⟨h.1, ?_⟩
  rcases h.2 with h2 | ⟨g, cap, cur, h1, h2, r⟩
  · exact .inl h2
  · exact .inr ⟨g, cap, cur, h1, Nat.le_trans hb h2, r⟩
structure PIv (M : Int) (H : Nat) (w : World) (out : List S56) (n : Int) (v : Value) (W : World) : Prop where
  b3 : Boxed W H 3 (.int .i64 M)
  b4 : Boxed W (H + 1) 22 (.slice none 0 0)
  b5 : Boxed W (H + 1 + 1) 24 (.int .i64 0)
  b6 : Boxed W (H + 1 + 1 + 1) 22 v
  b7 : Boxed W (H + 1 + 1 + 1 + 1) 3 (.int .i64 n)
  own : W.ownsRow (H + 8) 56 2 v out.length (cells56 out)
  sz : H + 8 ≤ W.heap.size
  below : Below H w W
theorem PIv.kept {M : Int} {H : Nat} {w : World} {out : List S56} {n : Int} {v : Value} {W W' : World} (h : PIv M H w out n v W) (hH : H = w.heap.size) {row : Option Nat} (hg : W.grownBy W' row)
    (hrow : ∀ r, row = some r → r = H + 5 ∨ (H + 8 ≤ r ∧ ∃ o : Obj, W.heap[r]? = some o ∧ o.isCells = false)) : PIv M H w out n v W' := by
  have far : ∀ j, j < H + 5 → some j ≠ row := fun j hj e => by rcases hrow j e.symm with h1 | ⟨h1, _⟩ <;> omega
  refine ⟨h.b3.kept hg (far _ (by omega)), h.b4.kept hg (far _ (by omega)), h.b5.kept hg (far _ (by omega)), h.b6.kept hg (far _ (by omega)), h.b7.kept hg (far _ (by omega)), ?_, Nat.le_trans h.sz hg.size, ?_⟩
  · refine h.own.kept hg ?_
    rcases h.own.2 with ⟨hv, _⟩ | ⟨g, cap, cur, hv, hgb, hh, _⟩
    · exact .inl (by rw [hv]; rfl)
    · refine .inr fun e' => ?_
      rw [hv] at e'
      rcases hrow g (by simpa [Value.ownBlock] using e'.symm) with h1 | ⟨_, o, ho, hc⟩
      · omega
      · rw [hh] at ho; cases ho; cases hc
  · exact h.below.grown hg (by have := h.sz; omega) (fun j e => by rcases hrow j e with h1 | ⟨h1, _⟩ <;> omega)
theorem PIv.lies {M : Int} {H : Nat} {w : World} {out : List S56} {n : Int} {v : Value} {W W' : World} (h : PIv M H w out n v W) (hH : H = w.heap.size) (hb : Below W.heap.size W W') : PIv M H w out n v W' :=
  h.kept hH (row := none) ⟨hb.os, hb.tape, hb.output, hb.size, fun j hj _ => hb.block j hj⟩ (fun r e => by cases e)
theorem PIv.far {M : Int} {H : Nat} {w : World} {out : List S56} {n : Int} {v : Value} {W : World} (h : PIv M H w out n v W) {j : Nat} (hj : j < H + 8) : v.ownBlock ≠ some j := fun e => by have := (h.own.lt j e).1; omega
theorem PIv.setN {M : Int} {H : Nat} {w : World} {out : List S56} {n : Int} {v : Value} {W : World} (h : PIv M H w out n v W) (n' : Int) : PIv M H w out n' v (W.setCell ⟨H + 1 + 1 + 1 + 1, 0, none⟩ (.int .i64 n')) :=
  ⟨Boxed.setOther h.b3 (by omega), Boxed.setOther h.b4 (by omega), Boxed.setOther h.b5 (by omega), Boxed.setOther h.b6 (by omega), h.b7.set _, h.own.kept (grownBy_setCell' W _ _) (.inr (h.far (by omega))),
    Nat.le_trans h.sz (KeepsWalks.setCell W _ _).size, h.below.setCell (p := ⟨H + 1 + 1 + 1 + 1, 0, none⟩) (by show H ≤ H + 1 + 1 + 1 + 1; omega) _⟩
theorem PIv.more {M : Int} {H : Nat} {w : World} {out : List S56} {n : Int} {v v' : Value} {W w1 : World} {x1 x2 : Int} {tmp : Obj} (h : PIv M H w out n v W) (hH : H = w.heap.size)
    (ho : w1.ownsRow (H + 8) 56 2 v' (out.length + 1) (cells56 out ++ [.int .i64 x1, .int .i64 x2])) (hg : (W.alloc tmp).grownBy w1 v.ownBlock) :
    Boxed w1 (H + 1 + 1 + 1) 22 v ∧ PIv M H w (out ++ [⟨x1, x2⟩]) n v' (w1.setCell ⟨H + 1 + 1 + 1, 0, none⟩ v') := by
  have p := h.kept hH (row := none) (World.grownBy_alloc W tmp none) (fun r e => by cases e)
  have k : ∀ {B : Nat} {t : TypeId} {u : Value}, Boxed (W.alloc tmp) B t u → B < H + 8 → Boxed w1 B t u := fun hb hB => hb.kept hg (fun e => p.far hB e.symm)
  have b6 := k p.b6 (by omega)
  refine ⟨b6, ⟨Boxed.setOther (k p.b3 (by omega)) (by omega), Boxed.setOther (k p.b4 (by omega)) (by omega), Boxed.setOther (k p.b5 (by omega)) (by omega), b6.set _, Boxed.setOther (k p.b7 (by omega)) (by omega), ?_, ?_, ?_⟩⟩
  · rw [List.length_append, cells56_snoc]
    refine ho.kept (grownBy_setCell' w1 _ _) (.inr fun e => ?_)
    have := (ho.lt _ e).1
    omega
  · exact Nat.le_trans p.sz (Nat.le_trans hg.size (KeepsWalks.setCell w1 _ _).size)
  · exact (p.below.grown hg (by have := p.sz; omega) (fun j e => by have := (p.own.lt j e).1; omega)).setCell (p := ⟨H + 1 + 1 + 1, 0, none⟩) (by show H ≤ H + 1 + 1 + 1; omega) _
/-- What the body keeps. -/
def Stp (H : Nat) (W W' : World) : Prop := KeepsOthers W W' ∧ Below H W W' ∧ ∀ j, H + 5 ≤ j → j < H + 8 → W'.heap[j]? = W.heap[j]?
theorem Stp.trans {H : Nat} {A B C : World} (h : Stp H A B) (k : Stp H B C) : Stp H A C := ⟨h.1.trans k.1, h.2.1.trans k.2.1, fun j a b => (k.2.2 j a b).trans (h.2.2 j a b)⟩
theorem Stp.lies {H : Nat} {A B : World} (h : Below A.heap.size A B) (hH : H + 8 ≤ A.heap.size) : Stp H A B := ⟨keeps_below h, h.mono (by omega), fun j _ hj => h.block j (by omega)⟩
theorem Stp.alloc {H : Nat} {A : World} (o : Obj) (hH : H + 8 ≤ A.heap.size) : Stp H A (A.alloc o) := Stp.lies ((Below.refl _ A).alloc (Nat.le_refl _) o) hH
theorem Stp.set {H : Nat} {A : World} {B : Nat} (v : Value) (h1 : H ≤ B) (h2 : B < H + 5) : Stp H A (A.setCell ⟨B, 0, none⟩ v) :=
  ⟨KeepsOthers.setCell _ _ _, (Below.refl H A).setCell (p := ⟨B, 0, none⟩) h1 v, fun j a _ => Below.heap_setCell _ _ _ j (by show j ≠ B; omega)⟩
theorem Stp.grown {M : Int} {H : Nat} {w : World} {out : List S56} {n : Int} {v : Value} {W w1 : World} {tmp : Obj} (h : PIv M H w out n v W) (hg : (W.alloc tmp).grownBy w1 v.ownBlock) : Stp H W w1 := by
  refine (Stp.alloc tmp h.sz).trans ⟨KeepsOthers.of_grownBy hg fun j o ej hj => ?_, (Below.refl H _).grown hg (by have := h.sz; simp; omega) (fun j e => by have := (h.own.lt j e).1; omega), fun j _ hj => hg.block j (by have := h.sz; simp; omega) (fun e => h.far hj e.symm)⟩
  rcases (h.own.alloc tmp).2 with ⟨rfl, _⟩ | ⟨g, cap, cur, rfl, _, hgb, _⟩
  · simp [Value.ownBlock] at ej
  · obtain rfl : g = j := by simpa [Value.ownBlock] using ej
    rw [hgb] at hj; cases hj; rfl
theorem cell_two_new (W : World) (x y : Value) (t : TypeId) : ∀ j u, [x, y][j]? = some u → (W.alloc (.cells #[x, y] t)).cell? ((⟨W.heap.size, 0, none⟩ : Addr).add j) = some u := by
  intro j u hj
  have hb : (W.alloc (.cells #[x, y] t)).heap[W.heap.size]? = some (.cells #[x, y] t) := World.alloc_heap_new W _
  match j, hj with
  | 0, hj =>
    simp only [List.getElem?_cons_zero, Option.some.injEq] at hj; subst hj
    show (match (W.alloc (.cells #[x, y] t)).heap[W.heap.size]? with | some (.cells c _ _) => c[0]? | _ => none) = some x
    rw [hb]; rfl
  | 1, hj =>
    simp only [List.getElem?_cons_succ, List.getElem?_cons_zero, Option.some.injEq] at hj; subst hj
    show (match (W.alloc (.cells #[x, y] t)).heap[W.heap.size]? with | some (.cells c _ _) => c[1]? | _ => none) = some y
    rw [hb]; rfl
theorem cell_two_new' {W : World} {s : Nat} (x y : Value) (t : TypeId) (hs : W.heap.size = s) : ∀ j u, [x, y][j]? = some u → (W.alloc (.cells #[x, y] t)).cell? ((⟨s, 0, none⟩ : Addr).add j) = some u := by
  subst hs; exact cell_two_new W x y t
theorem small_len {n : Nat} (h : n ≤ 10) : n + 1 ≤ maxLen := Nat.le_trans (Nat.succ_le_succ h) (by decide)
theorem x_box (W : World) (x1 x2 : Int) (B : Nat) (v : Value) (hB : B < W.heap.size) :
    ((W.alloc (Obj.cells #[Value.int IntKind.i64 x1, Value.int IntKind.i64 x2] 56)).setCell ⟨B, 0, none⟩ v).cell? ⟨W.heap.size, 0, none⟩ = some (.int .i64 x1) ∧ ((W.alloc (Obj.cells #[Value.int IntKind.i64 x1, Value.int IntKind.i64 x2] 56)).setCell ⟨B, 0, none⟩ v).cell? ⟨W.heap.size, 1, none⟩ = some (.int .i64 x2) := by
  have hb : ((W.alloc (Obj.cells #[Value.int IntKind.i64 x1, Value.int IntKind.i64 x2] 56)).setCell ⟨B, 0, none⟩ v).heap[W.heap.size]? = some (Obj.cells #[Value.int IntKind.i64 x1, Value.int IntKind.i64 x2] 56) :=
    (Below.heap_setCell _ _ _ _ (by show W.heap.size ≠ B; omega)).trans (World.alloc_heap_new W _)
  unfold World.cell?
  simp only []
  rw [hb]
  exact ⟨rfl, rfl⟩
noncomputable def parse_code : Code := match Tryz.f9.body with
  | some (.seq _ (.seq _ (.seq _ (.seq _ (.seq _ (.seq (.seq _ (.block _ (.rangeFunc _ _ _ b))) _)))))) => b
  | _ => .skip
set_option maxHeartbeats 4000000 in
set_option maxRecDepth 100000 in
theorem parse_body (k : Nat) (a0 : ByteArray) (a1 M : Int) (H : Nat) (w W : World) (HH : Aside0 (H = w.heap.size)) (r1 : List S56) (r2 : Int) (l : Nat) (x : ByteArray) (rest : List ByteArray) (out : List S56) (n : Int) (v : Value)
    (e2 : part_Parse.go k M (x :: rest) out n = some (r1, r2)) (e3 : 0 ≤ n) (e4 : n ≤ 10) (e5 : (out.length : Int) ≤ n) (pv : Aside0 (PIv M H w out n v W)) (Q : Exit → Act → World → Prop)
    (hnext : Aside0 (∀ a' W' out' n' v', Stp H W W' → part_Parse.go k M rest out' n' = some (r1, r2) → 0 ≤ n' → n' ≤ 10 → (out'.length : Int) ≤ n' → PIv M H w out' n' v' W' → Q .normal a' W'))
    (hstop : Aside0 (∀ a' W', KeepsOthers W W' → r1 = [] → r2 = 121 → Boxed W' (H + 1) 22 (.slice none 0 0) → Boxed W' (H + 1 + 1) 24 (.int .i64 121) → Below H w W' → Q .ret a' W')) :
    parse_code.wpIn (Fence.wide.inRound l) 1 Tryz.prog Q { tmps := #[Value.string a0, Value.int IntKind.i64 a1, undef, Value.pointer (some { block := H, off := 0 }),
          Value.pointer (some { block := H + 1, off := 0 }), Value.pointer (some { block := H + 1 + 1, off := 0 }),
          Value.pointer (some { block := H + 1 + 1 + 1, off := 0 }), Value.pointer (some { block := H + 1 + 1 + 1 + 1, off := 0 }), .string x, undef, undef,
          Value.int IntKind.i64 a1, Value.int IntKind.i64 M, Value.string a0, Value.int IntKind.i64 ↑a0.size,
          Value.bool (decide ((a0.size : Int) < 6)), Value.bool (decide ((a0.size : Int) < 6)), Value.string a0,
          Value.string (a0.extract 0 6), Value.bool true, Value.bool false, Value.bool (decide ((a0.size : Int) < 6)),
          Value.string a0, Value.string (a0.extract 6 a0.size),
          Value.func (Fn.func 96) #[] #[Value.pointer (some { block := H + 5 + 1, off := 0 }), Value.pointer (some { block := H + 5, off := 0 }), Value.pointer (some { block := H + 5 + 2, off := 0 })],
          .string x, undef, undef, undef, undef, undef, undef, undef, undef, undef, undef, undef, undef, undef, undef, undef, undef, undef, undef, undef, undef, undef, undef, undef, undef, undef, undef, undef, undef, undef, undef], defers := [] } W := by
  unfold part_Parse.go at e2
  obtain ⟨t, ht, e2⟩ := Option.bind_eq_some_iff.mp e2
  simp only [parse_code, Tryz.f9]
  by_cases he : t.toList = []
  · rw [if_pos he] at e2
    have he' := beq_empty he
    have E2 := Aside0.mk e2
    clear e2
    gi_wp2_with (refine ⟨trivial, ?_⟩; gi_at_call 29; refine (CallsIn.inRound l (callsIn_wide.2 (strings_Trim.calls x _ t _ ht))).mono ?_; rintro e W2 ⟨rfl, hb2⟩; have pv2 := Aside0.mk (pv.out.lies HH.out hb2); have st2 := Aside0.mk (Stp.lies hb2 pv.out.sz))
    exact hnext.out _ _ _ _ _ st2.out E2.out e3 e4 e5 pv2.out
  · rw [if_neg he] at e2
    obtain ⟨⟨x1, x2, x3⟩, hx, e2⟩ := Option.bind_eq_some_iff.mp e2
    simp only [] at e2
    have k3 := pv.out.b3.cell
    have hw : wrap64 (n + 1) = n + 1 := by unfold wrap64; omega
    have heb : t.toList.isEmpty = false := by cases h : t.toList with
      | nil => exact absurd h he
      | cons a b => rfl
    cases x3 with
    | false =>
      rw [if_pos rfl] at e2
      have E2 := Aside0.mk e2
      clear e2
      gi_wp2_with (first | (refine ⟨trivial, ?_⟩; gi_at_call 29; refine (CallsIn.inRound l (callsIn_wide.2 (strings_Trim.calls x _ t _ ht))).mono ?_; rintro e W2 ⟨rfl, hb2⟩; have pv2 := Aside0.mk (pv.out.lies HH.out hb2); have st2 := Aside0.mk (Stp.lies hb2 pv.out.sz); clear k3 hb2; have k3 := pv2.out.b3.cell) | (refine ⟨trivial, ?_⟩; gi_at_call 30; refine (CallsIn.inRound l (callsIn_wide.2 (part_span.calls k t M x1 x2 false _ hx))).mono ?_; rintro e W3 ⟨rfl, hb3⟩; have pv3 := Aside0.mk (pv2.out.lies HH.out hb3); have st3 := Aside0.mk ((st2.out.trans (Stp.lies hb3 pv2.out.sz)).trans (Stp.alloc (Obj.cells #[Value.int IntKind.i64 x1, Value.int IntKind.i64 x2] 56) pv3.out.sz)); clear k3 hb3; have pv4 := Aside0.mk (pv3.out.kept HH.out (row := none) (World.grownBy_alloc W3 (Obj.cells #[Value.int IntKind.i64 x1, Value.int IntKind.i64 x2] 56) none) (fun r e => by cases e)); have k7 := pv4.out.b7.cell; have k7f := pv4.out.b7.frozen; have pv5 := Aside0.mk (pv4.out.setN (n + 1)); have st5 := Aside0.mk (st3.out.trans (Stp.set (B := H + 1 + 1 + 1 + 1) (.int .i64 (n + 1)) (by omega) (by omega))); have k4f := pv5.out.b4.frozen; have k4 := pv5.out.b4.cell; have b5 := Boxed.setOther (B' := H + 1) (v' := .slice none 0 0) pv5.out.b5 (by omega); have k5f := b5.frozen; have k5 := b5.cell))
      have pv5' := pv5.out
      exact hstop.out _ _ ((st5.out.1.trans (KeepsOthers.setCell _ ⟨H + 1, 0, none⟩ (.slice none 0 0))).trans (KeepsOthers.setCell _ ⟨H + 1 + 1, 0, none⟩ (.int .i64 121))) (by have := E2.out; injection this with h1; injection h1 with h1 h2; exact h1.symm) (by have := E2.out; injection this with h1; injection h1 with h1 h2; exact h2.symm) (Boxed.setOther (pv5'.b4.set _) (by omega)) ((Boxed.setOther (v' := .slice none 0 0) pv5'.b5 (by omega)).set _) ((pv5'.below.setCell (p := ⟨H + 1, 0, none⟩) (by show H ≤ H + 1; omega) _).setCell (p := ⟨H + 1 + 1, 0, none⟩) (by show H ≤ H + 1 + 1; omega) _)
    | true =>
      rw [if_neg (by decide)] at e2
      by_cases hn : n + 1 > 10
      · rw [if_pos hn] at e2
        have E2 := Aside0.mk e2
        clear e2
        gi_wp2_with (first | (refine ⟨trivial, ?_⟩; gi_at_call 29; refine (CallsIn.inRound l (callsIn_wide.2 (strings_Trim.calls x _ t _ ht))).mono ?_; rintro e W2 ⟨rfl, hb2⟩; have pv2 := Aside0.mk (pv.out.lies HH.out hb2); have st2 := Aside0.mk (Stp.lies hb2 pv.out.sz); clear k3 hb2; have k3 := pv2.out.b3.cell) | (refine ⟨trivial, ?_⟩; gi_at_call 30; refine (CallsIn.inRound l (callsIn_wide.2 (part_span.calls k t M x1 x2 true _ hx))).mono ?_; rintro e W3 ⟨rfl, hb3⟩; have pv3 := Aside0.mk (pv2.out.lies HH.out hb3); have st3 := Aside0.mk ((st2.out.trans (Stp.lies hb3 pv2.out.sz)).trans (Stp.alloc (Obj.cells #[Value.int IntKind.i64 x1, Value.int IntKind.i64 x2] 56) pv3.out.sz)); clear k3 hb3; have pv4 := Aside0.mk (pv3.out.kept HH.out (row := none) (World.grownBy_alloc W3 (Obj.cells #[Value.int IntKind.i64 x1, Value.int IntKind.i64 x2] 56) none) (fun r e => by cases e)); have k7 := pv4.out.b7.cell; have k7f := pv4.out.b7.frozen; have pv5 := Aside0.mk (pv4.out.setN (n + 1)); have st5 := Aside0.mk (st3.out.trans (Stp.set (B := H + 1 + 1 + 1 + 1) (.int .i64 (n + 1)) (by omega) (by omega))); have k4f := pv5.out.b4.frozen; have k4 := pv5.out.b4.cell; have b5 := Boxed.setOther (B' := H + 1) (v' := .slice none 0 0) pv5.out.b5 (by omega); have k5f := b5.frozen; have k5 := b5.cell; have kn := pv5.out.b7.cell))
        have pv5' := pv5.out
        exact hstop.out _ _ ((st5.out.1.trans (KeepsOthers.setCell _ ⟨H + 1, 0, none⟩ (.slice none 0 0))).trans (KeepsOthers.setCell _ ⟨H + 1 + 1, 0, none⟩ (.int .i64 121))) (by have := E2.out; injection this with h1; injection h1 with h1 h2; exact h1.symm) (by have := E2.out; injection this with h1; injection h1 with h1 h2; exact h2.symm) (Boxed.setOther (pv5'.b4.set _) (by omega)) ((Boxed.setOther (v' := .slice none 0 0) pv5'.b5 (by omega)).set _) ((pv5'.below.setCell (p := ⟨H + 1, 0, none⟩) (by show H ≤ H + 1; omega) _).setCell (p := ⟨H + 1 + 1, 0, none⟩) (by show H ≤ H + 1 + 1; omega) _)
      · rw [if_neg hn] at e2
        by_cases hlt : x1 < x2
        · rw [if_pos hlt] at e2
          have E2 := Aside0.mk e2
          clear e2
          obtain ⟨i0, hi, hz0, hz1, hz2⟩ := info_parts info56
          gi_wp2_with (first | (refine ⟨trivial, ?_⟩; gi_at_call 29; refine (CallsIn.inRound l (callsIn_wide.2 (strings_Trim.calls x _ t _ ht))).mono ?_; rintro e W2 ⟨rfl, hb2⟩; have pv2 := Aside0.mk (pv.out.lies HH.out hb2); have st2 := Aside0.mk (Stp.lies hb2 pv.out.sz); clear k3 hb2; have k3 := pv2.out.b3.cell) | (refine ⟨trivial, ?_⟩; gi_at_call 30; refine (CallsIn.inRound l (callsIn_wide.2 (part_span.calls k t M x1 x2 true _ hx))).mono ?_; rintro e W3 ⟨rfl, hb3⟩; have pv3 := Aside0.mk (pv2.out.lies HH.out hb3); have st3 := Aside0.mk ((st2.out.trans (Stp.lies hb3 pv2.out.sz)).trans (Stp.alloc (Obj.cells #[Value.int IntKind.i64 x1, Value.int IntKind.i64 x2] 56) pv3.out.sz)); clear k3 hb3; have pv4 := Aside0.mk (pv3.out.kept HH.out (row := none) (World.grownBy_alloc W3 (Obj.cells #[Value.int IntKind.i64 x1, Value.int IntKind.i64 x2] 56) none) (fun r e => by cases e)); have k7 := pv4.out.b7.cell; have k7f := pv4.out.b7.frozen; have pv5 := Aside0.mk (pv4.out.setN (n + 1)); have st5 := Aside0.mk (st3.out.trans (Stp.set (B := H + 1 + 1 + 1 + 1) (.int .i64 (n + 1)) (by omega) (by omega))); have bx := x_box W3 x1 x2 (H + 1 + 1 + 1 + 1) (.int .i64 (n + 1)) (by have := pv3.out.sz; omega); have kx0 := bx.1; have kx1 := bx.2; clear bx; have kn := pv5.out.b7.cell; have k6 := pv5.out.b6.cell) | (gi_at_builtin; refine wpListIn_append_own _ rfl _ _ 22 rfl (H + 8) 56 i0 (.agg #[(.int .i64 0), (.int .i64 0)]) 2 16 Tryz.underlying22 hi hz0 hz1 hz2 rfl (by decide) v out.length (cells56 out) rfl (pv5.out.own.alloc _) ⟨W3.heap.size + 1, 0, none⟩ 1 1 [.int .i64 x1, .int .i64 x2] rfl rfl (cell_two_new' _ _ _ (by simp)) (by simp [Value.oneCell']) (small_len (by omega)) (by omega) (by have := pv3.out.sz; simp; omega) ?_; intro v' w1 hown' hgrow _; obtain ⟨g', cap', rfl⟩ := ownsRow_succ hown'; have mo := Aside0.mk (pv5.out.more HH.out hown' hgrow); have c6 := mo.out.1.cell; have c6f := mo.out.1.frozen; replace hgrow := Aside0.mk hgrow; clear hown' k6))
          exact hnext.out _ _ _ _ _ (st5.out.trans ((Stp.grown pv5.out hgrow.out).trans (Stp.set (B := H + 1 + 1 + 1) _ (by omega) (by omega)))) E2.out (by omega) (by omega) (by simp; omega) mo.out.2
        · rw [if_neg hlt] at e2
          have E2 := Aside0.mk e2
          clear e2
          gi_wp2_with (first | (refine ⟨trivial, ?_⟩; gi_at_call 29; refine (CallsIn.inRound l (callsIn_wide.2 (strings_Trim.calls x _ t _ ht))).mono ?_; rintro e W2 ⟨rfl, hb2⟩; have pv2 := Aside0.mk (pv.out.lies HH.out hb2); have st2 := Aside0.mk (Stp.lies hb2 pv.out.sz); clear k3 hb2; have k3 := pv2.out.b3.cell) | (refine ⟨trivial, ?_⟩; gi_at_call 30; refine (CallsIn.inRound l (callsIn_wide.2 (part_span.calls k t M x1 x2 true _ hx))).mono ?_; rintro e W3 ⟨rfl, hb3⟩; have pv3 := Aside0.mk (pv2.out.lies HH.out hb3); have st3 := Aside0.mk ((st2.out.trans (Stp.lies hb3 pv2.out.sz)).trans (Stp.alloc (Obj.cells #[Value.int IntKind.i64 x1, Value.int IntKind.i64 x2] 56) pv3.out.sz)); clear k3 hb3; have pv4 := Aside0.mk (pv3.out.kept HH.out (row := none) (World.grownBy_alloc W3 (Obj.cells #[Value.int IntKind.i64 x1, Value.int IntKind.i64 x2] 56) none) (fun r e => by cases e)); have k7 := pv4.out.b7.cell; have k7f := pv4.out.b7.frozen; have pv5 := Aside0.mk (pv4.out.setN (n + 1)); have st5 := Aside0.mk (st3.out.trans (Stp.set (B := H + 1 + 1 + 1 + 1) (.int .i64 (n + 1)) (by omega) (by omega))); have bx := x_box W3 x1 x2 (H + 1 + 1 + 1 + 1) (.int .i64 (n + 1)) (by have := pv3.out.sz; omega); have kx0 := bx.1; have kx1 := bx.2; clear bx; have kn := pv5.out.b7.cell))
          exact hnext.out _ _ _ _ _ st5.out E2.out (by omega) (by omega) (by omega) pv5.out
set_option maxHeartbeats 4000000 in
set_option maxRecDepth 100000 in
theorem part_Parse.loops (k : Nat) (a0 : ByteArray) (a1 : Int) (r1 : List S56) (r2 : Int) (w : World) (hs : ¬ a0.size < 6) (hsm : head_Same.f k (a0.extract 0 6) ⟨#[98, 121, 116, 101, 115, 61]⟩ = some true) (hz : a0.size ≤ 9223372036854775806) (h : part_Parse.go k (mx a1 0) (cuts 44 (a0.extract 6 a0.size)) [] 0 = some (r1, r2)) :
    Calls Tryz.prog 9 #[.string a0, .int .i64 a1] w fun e w' => ∃ v0_ : Value, e = .returned (.tuple #[v0_, .int .i64 r2]) ∧ Kd.R k56 56 w' w.heap.size (fun _ => True) v0_ r1 ∧ Below w.heap.size w w' := by
  have c1 : (6 : Int) ≤ (a0.size : Int) := by omega
  refine (callsIn_wide (n := 3)).1 ?_
  refine callsIn_of_wp_marks Tryz.func9 rfl trivial ?_ rfl
  simp only [Tryz.ntmps9, List.size_toArray, List.length_cons, List.length_nil, Nat.reduceAdd, Nat.reduceSub, Array.replicate_succ, Array.replicate_zero, List.push_toArray, List.append_toArray, List.nil_append, List.cons_append]
  gi_wp2_with (first | (refine ⟨trivial, ?_⟩; gi_at_call 27; refine (callsIn_wide.2 (head_Same.calls k _ _ true _ hsm)).mono ?_; rintro e w' ⟨rfl, m, rfl⟩) | (refine ⟨trivial, ?_⟩; gi_at_call 28; refine (callsIn_wide.2 (SplitSeq.calls _ _ _)).mono ?_; rintro e w' ⟨rfl, rfl⟩))
  have HZ := Aside0.mk hz
  clear hz
  obtain ⟨H, hH⟩ : ∃ H, H = w.heap.size := ⟨_, rfl⟩
  obtain ⟨M, hM⟩ : ∃ M, M = mx a1 0 := ⟨_, rfl⟩
  rw [← hM] at h ⊢
  rw [← hH]
  obtain ⟨W0, hW0⟩ : ∃ W0, (((((((((w.alloc (Obj.cells #[Value.int IntKind.i64 M] 3)).alloc (Obj.cells #[Value.slice none 0 0] 22)).alloc (Obj.cells #[Value.int IntKind.i64 0] 24)).drewN m).alloc
      (Obj.cells #[Value.slice none 0 0] 22)).alloc (Obj.cells #[Value.int IntKind.i64 0] 3)).alloc (Obj.cells #[Value.string (a0.extract 6 a0.size)] 9)).alloc (Obj.cells #[Value.string { data := #[44] }] 9)).alloc (Obj.cells #[Value.int IntKind.i64 0] 3)) = W0 := ⟨_, rfl⟩
  have hsz : W0.heap.size = H + 8 := by rw [← hW0, hH]; simp [World.drewN]
  have hheap : W0.heap = w.heap ++ #[Obj.cells #[Value.int IntKind.i64 M] 3, Obj.cells #[Value.slice none 0 0] 22, Obj.cells #[Value.int IntKind.i64 0] 24, Obj.cells #[Value.slice none 0 0] 22, Obj.cells #[Value.int IntKind.i64 0] 3, Obj.cells #[Value.string (a0.extract 6 a0.size)] 9, Obj.cells #[Value.string { data := #[44] }] 9, Obj.cells #[Value.int IntKind.i64 0] 3] := by
    rw [← hW0]; apply Array.ext'; simp only [World.alloc, World.drewN, Array.toList_push, Array.toList_append, List.append_assoc, List.cons_append, List.nil_append]
  have hat : ∀ j : Nat, W0.heap[H + j]? = (#[Obj.cells #[Value.int IntKind.i64 M] 3, Obj.cells #[Value.slice none 0 0] 22, Obj.cells #[Value.int IntKind.i64 0] 24, Obj.cells #[Value.slice none 0 0] 22, Obj.cells #[Value.int IntKind.i64 0] 3, Obj.cells #[Value.string (a0.extract 6 a0.size)] 9, Obj.cells #[Value.string { data := #[44] }] 9, Obj.cells #[Value.int IntKind.i64 0] 3] : Array Obj)[j]? := fun j => by
    rw [hheap, hH, Array.getElem?_append_right (by omega), Nat.add_sub_cancel_left]
  have hB0 : Below H w W0 := by
    rw [← hW0, hH]
    exact (((((((((Below.refl _ w).alloc (Nat.le_refl _) _).alloc (by simp) _).alloc (by simp; omega) _).trans (Drawn0.below ⟨m, rfl⟩ |>.mono (by simp; omega))).alloc (by simp [World.drewN]; omega) _).alloc (by simp [World.drewN]; omega) _).alloc (by simp [World.drewN]; omega) _).alloc (by simp [World.drewN]; omega) _).alloc (by simp [World.drewN]; omega) _
  rw [hW0]
  have p0 : PIv M H w [] 0 (.slice none 0 0) W0 := ⟨hat 0, hat 1, hat 2, hat 3, hat 4, World.ownsRow_nil _ _ _ _, by omega, hB0⟩
  have HH := Aside0.mk hH
  clear hM hheap hW0
  refine wpIn_rangeC (P := Tryz.prog) rfl (by omega) (gf := 96) (lb := #[.pointer (some ⟨H + 5 + 1, 0, none⟩), .pointer (some ⟨H + 5, 0, none⟩), .pointer (some ⟨H + 5 + 2, 0, none⟩)]) rfl trivial (enters_of Tryz.func96 (by kernel_rfl) rfl)
    (splitSeq1.seq _ H (H + 5) 44 (a0.extract 6 a0.size) (by have := HZ.out; rw [ByteArray.size_extract]; omega) W0 (hat 5) (hat 6) (hat 7)) (by omega)
    (fun h1 h2 => ⟨h1.1.trans h2.1, fun j a b => (h2.2 j a b).trans (h1.2 j a b)⟩)
    (fun W l o o' hl ho hc => ⟨(Below.refl H W).grown (grownBy_putObj' W l o') (by have := (Array.getElem?_eq_some_iff.1 ho).1; omega) (fun k e => by cases e; omega), fun j a b => World.putObj_heap_other (by omega)⟩) (Below.refl _ _)
    (fun pre W => ∃ out n v rest, cuts 44 (a0.extract 6 a0.size) = pre ++ rest ∧ part_Parse.go k M rest out n = some (r1, r2) ∧ 0 ≤ n ∧ n ≤ 10 ∧ (out.length : Int) ≤ n ∧ PIv M H w out n v W)
    (fun pre W => r1 = [] ∧ r2 = 121 ∧ Boxed W (H + 1) 22 (.slice none 0 0) ∧ Boxed W (H + 1 + 1) 24 (.int .i64 121) ∧ Below H w W)
    ?hI ?hIs ?hIx ⟨[], 0, .slice none 0 0, _, rfl, h, by omega, by omega, by simp, p0⟩
    (fun x => { tmps := #[Value.string a0, Value.int IntKind.i64 a1, undef, Value.pointer (some { block := H, off := 0 }),
          Value.pointer (some { block := H + 1, off := 0 }), Value.pointer (some { block := H + 1 + 1, off := 0 }),
          Value.pointer (some { block := H + 1 + 1 + 1, off := 0 }), Value.pointer (some { block := H + 1 + 1 + 1 + 1, off := 0 }), .string x, undef, undef,
          Value.int IntKind.i64 a1, Value.int IntKind.i64 M, Value.string a0, Value.int IntKind.i64 ↑a0.size,
          Value.bool (decide ((a0.size : Int) < 6)), Value.bool (decide ((a0.size : Int) < 6)), Value.string a0,
          Value.string (a0.extract 0 6), Value.bool true, Value.bool false, Value.bool (decide ((a0.size : Int) < 6)),
          Value.string a0, Value.string (a0.extract 6 a0.size),
          Value.func (Fn.func 96) #[] #[Value.pointer (some { block := H + 5 + 1, off := 0 }), Value.pointer (some { block := H + 5, off := 0 }), Value.pointer (some { block := H + 5 + 2, off := 0 })],
          .string x, undef, undef, undef, undef, undef, undef, undef, undef, undef, undef, undef, undef, undef, undef, undef, undef, undef, undef, undef, undef, undef, undef, undef, undef, undef, undef, undef, undef, undef, undef], defers := [] }) ?assign ?body ?done ?stop
  case hI =>
    rintro s A B row ⟨out, n, v, rest, e1, e2, e3, e4, e5, pv⟩ hg hr
    exact ⟨out, n, v, rest, e1, e2, e3, e4, e5, pv.kept HH.out hg (fun r e => .inr ⟨by have := (hr r e).1; omega, (hr r e).2⟩)⟩
  case hIs =>
    rintro s A B ⟨out, n, v, rest, e1, e2, e3, e4, e5, pv⟩ hg
    exact ⟨out, n, v, rest, e1, e2, e3, e4, e5, pv.kept HH.out hg (fun r e => .inl (by injection e with e; omega))⟩
  case hIx =>
    rintro s A B row ⟨e1, e2, e3, e4, e5⟩ hg hr
    have far : ∀ j, j < H + 8 → some j ≠ row := fun j hj e => by have := (hr j e.symm).1; omega
    exact ⟨e1, e2, e3.kept hg (far _ (by omega)), e4.kept hg (far _ (by omega)), e5.grown hg (by have := e5.size; omega) (fun j e => by have := (hr j e).1; omega)⟩
  case assign =>
    clear hH
    intro l x W K hK
    gi_wp2
    exact hK
  case body =>
    rintro l pre x W ⟨out, n, v, rest, e1, e2, e3, e4, e5, pv⟩ hpre
    obtain ⟨rest', rfl⟩ : ∃ rest', rest = x :: rest' := by
      obtain ⟨t', ht'⟩ := hpre
      rw [e1, List.append_assoc, List.append_cancel_left_eq] at ht'
      exact ⟨t', ht'.symm⟩
    refine parse_body k a0 a1 M H w W HH r1 r2 l x rest' out n v e2 e3 e4 e5 ⟨pv⟩ _ ⟨fun a' W' out' n' v' st g1 g2 g3 g4 g5 => ?_⟩ ⟨fun a' W' g1 g2 g3 g4 g5 g6 => ?_⟩
    · exact ⟨st.1, ⟨st.2.1, st.2.2⟩, out', n', v', rest', by rw [e1]; simp, g1, g2, g3, g4, g5⟩
    · exact ⟨g1, rfl, g2, g3, g4, g5, g6⟩
  case done =>
    rintro D W hD ⟨out, n, v, rest, e1, e2, e3, e4, e5, pv⟩ hK
    have hD' : H + 8 ≤ D := by omega
    clear hD hH hat hB0 p0 hsz h
    obtain rfl : rest = [] := by
      have := congrArg List.length e1
      rw [List.length_append] at this
      exact List.length_eq_zero_iff.1 (by omega)
    replace e2 : (if n = 0 then some (([] : List S56), (121 : Int)) else some (out, 0)) = some (r1, r2) := e2
    have hres : Tryz.f9.results = #[.cell 4 22, .cell 5 24] := rfl
    have k7 := pv.b7.cell
    have k4f := pv.b4.frozen
    have k4 := pv.b4.cell
    obtain ⟨vA, vn, vc, rfl⟩ : ∃ A n1 c, v = .slice A n1 c := by
      rcases pv.own.2 with ⟨hv, _⟩ | ⟨g, cap, cur, hv, _⟩
      · exact ⟨_, _, _, hv⟩
      · exact ⟨_, _, _, hv⟩
    have q4 := fun u : Value => pv.b4.set u
    have q5 := fun u : Value => Boxed.setOther (B' := H + 1) (v' := u) pv.b5 (by omega)
    have b45 := fun u u' : Value => Boxed.setOther (B' := H + 1 + 1) (v' := u') (q4 u) (by omega)
    have b55 := fun u u' : Value => (q5 u).set u'
    by_cases hn : n = 0
    · rw [if_pos hn] at e2
      injection e2 with e2; injection e2 with e2a e2b
      subst e2a; subst e2b; subst hn
      have k5f := (q5 (.slice none 0 0)).frozen
      have k5 := (q5 (.slice none 0 0)).cell
      gi_wp2
      have hK1 := (KeepsOthers.setCell W ⟨H + 1, 0, none⟩ (.slice none 0 0)).same D _ hK rfl
      have hK2 := (KeepsOthers.setCell _ ⟨H + 1 + 1, 0, none⟩ (.int .i64 121)).same D _ hK1 rfl
      refine ⟨by simp, .inl ⟨_, _, rfl, run_takeDeferred hK2, ?_⟩⟩
      have c4 := cell_kept (b45 (.slice none 0 0) (.int .i64 121)).cell (grownBy_putObj' _ D (.deferred none)) (fun r e => by cases e; exact ⟨_, hK2, rfl⟩)
      have c5 := cell_kept (b55 (.slice none 0 0) (.int .i64 121)).cell (grownBy_putObj' _ D (.deferred none)) (fun r e => by cases e; exact ⟨_, hK2, rfl⟩)
      refine ⟨.tuple #[.slice none 0 0, .int .i64 121], by simp [results, hres, go_sem, c4, c5], _, rfl, Kd.R_nil _ _ _ _ _, ?_⟩
      rw [← HH.out]
      exact ((pv.below.setCell (p := ⟨H + 1, 0, none⟩) (by show H ≤ H + 1; omega) _).setCell (p := ⟨H + 1 + 1, 0, none⟩) (by show H ≤ H + 1 + 1; omega) _).trans (belowK_b (w := w) (by have := HH.out; omega) _ D _ _ (by have := HH.out; omega) hK2 rfl rfl)
    · rw [if_neg hn] at e2
      injection e2 with e2; injection e2 with e2a e2b
      subst e2a; subst e2b
      have k5f := (q5 (.slice vA vn vc)).frozen
      have k5 := (q5 (.slice vA vn vc)).cell
      have k6 := pv.b6.cell
      gi_wp2
      have hK1 := (KeepsOthers.setCell W ⟨H + 1, 0, none⟩ (.slice vA vn vc)).same D _ hK rfl
      have hK2 := (KeepsOthers.setCell _ ⟨H + 1 + 1, 0, none⟩ (.int .i64 0)).same D _ hK1 rfl
      refine ⟨by simp, .inl ⟨_, _, rfl, run_takeDeferred hK2, ?_⟩⟩
      have c4 := cell_kept (b45 (.slice vA vn vc) (.int .i64 0)).cell (grownBy_putObj' _ D (.deferred none)) (fun r e => by cases e; exact ⟨_, hK2, rfl⟩)
      have c5 := cell_kept (b55 (.slice vA vn vc) (.int .i64 0)).cell (grownBy_putObj' _ D (.deferred none)) (fun r e => by cases e; exact ⟨_, hK2, rfl⟩)
      refine ⟨.tuple #[.slice vA vn vc, .int .i64 0], by simp [results, hres, go_sem, c4, c5], _, rfl, ?_, ?_⟩
      · rw [← HH.out]
        refine R56_of_own (own_lower (h := ?_) (by omega : H ≤ H + 8))
        exact ownsRow_putObj ((pv.own.kept (grownBy_setCell' W _ _) (.inr (pv.far (by omega)))).kept (grownBy_setCell' _ _ _) (.inr (pv.far (by omega)))) _ hK2 rfl
      · rw [← HH.out]
        exact ((pv.below.setCell (p := ⟨H + 1, 0, none⟩) (by show H ≤ H + 1; omega) _).setCell (p := ⟨H + 1 + 1, 0, none⟩) (by show H ≤ H + 1 + 1; omega) _).trans (belowK_b (w := w) (by have := HH.out; omega) _ D _ _ (by have := HH.out; omega) hK2 rfl rfl)
  case stop =>
    rintro D pre W hD ⟨e1, e2, e3, e4, e5⟩ hK
    have hD' : H + 8 ≤ D := by omega
    clear hD hH hat hB0 p0 hsz h
    subst e1; subst e2
    have hres : Tryz.f9.results = #[.cell 4 22, .cell 5 24] := rfl
    gi_wp2
    refine ⟨by simp, .inl ⟨_, _, rfl, run_takeDeferred hK, ?_⟩⟩
    have c4 := cell_kept e3.cell (grownBy_putObj' _ D (.deferred none)) (fun r e => by cases e; exact ⟨_, hK, rfl⟩)
    have c5 := cell_kept e4.cell (grownBy_putObj' _ D (.deferred none)) (fun r e => by cases e; exact ⟨_, hK, rfl⟩)
    refine ⟨.tuple #[.slice none 0 0, .int .i64 121], by simp [results, hres, go_sem, c4, c5], _, rfl, Kd.R_nil _ _ _ _ _, ?_⟩
    rw [← HH.out]
    exact e5.trans (belowK_b (w := w) (by have := HH.out; omega) _ D _ _ (by have := HH.out; omega) hK rfl rfl)
theorem part_Parse.calls0 (k : Nat) (a0 : ByteArray) (a1 : Int) (w : World) (hs : ¬ a0.size < 6) (hsm : head_Same.f k (a0.extract 0 6) ⟨#[98, 121, 116, 101, 115, 61]⟩ = some false) :
    Calls Tryz.prog 9 #[.string a0, .int .i64 a1] w fun e w' => e = .returned (.tuple #[.slice none 0 0, .int .i64 121]) ∧ Below w.heap.size w w' := by
  have c1 : (6 : Int) ≤ (a0.size : Int) := by omega
  go_enter Tryz.func9, Tryz.ntmps9
  go_wp2_with (go_at_call 27; refine (head_Same.calls k _ _ false _ hsm).mono ?_; rintro e w' ⟨rfl, m, rfl⟩)
  have hres : Tryz.f9.results = #[.cell 4 22, .cell 5 24] := rfl
  obtain ⟨W0, hW0⟩ : ∃ W0, (((w.alloc (Obj.cells #[Value.int IntKind.i64 (mx a1 0)] 3)).alloc (Obj.cells #[Value.slice none 0 0] 22)).alloc (Obj.cells #[Value.int IntKind.i64 0] 24)).drewN m = W0 := ⟨_, rfl⟩
  rw [hW0]
  have b4 : Boxed W0 (w.heap.size + 1) 22 (.slice none 0 0) := by
    rw [← hW0]
    have := (Boxed.new (w.alloc (Obj.cells #[Value.int IntKind.i64 (mx a1 0)] 3)) 22 (.slice none 0 0)).alloc (Obj.cells #[Value.int IntKind.i64 0] 24)
    rwa [World.size_alloc] at this
  have b5 : Boxed W0 (w.heap.size + 1 + 1) 24 (.int .i64 0) := by
    rw [← hW0]
    have := Boxed.new ((w.alloc (Obj.cells #[Value.int IntKind.i64 (mx a1 0)] 3)).alloc (Obj.cells #[Value.slice none 0 0] 22)) 24 (.int .i64 0)
    rwa [World.size_alloc, World.size_alloc] at this
  have c4 := (Boxed.setOther (B' := w.heap.size + 1 + 1) (v' := .int .i64 121) (b4.set (.slice none 0 0)) (by omega)).cell
  have c5 := ((Boxed.setOther (B' := w.heap.size + 1) (v' := .slice none 0 0) b5 (by omega)).set (.int .i64 121)).cell
  refine bodyPost_ret (v := .tuple #[.slice none 0 0, .int .i64 121]) (by simp [results, hres, go_sem, c4, c5]) rfl ⟨rfl, ?_⟩
  have hB : Below w.heap.size w W0 := by
    rw [← hW0]
    exact ((((Below.refl _ w).alloc (Nat.le_refl _) _).alloc (by simp) _).alloc (by simp; omega) _).trans (Drawn0.below ⟨m, rfl⟩ |>.mono (by simp; omega))
  exact (hB.setCell (p := ⟨w.heap.size + 1, 0, none⟩) (by show w.heap.size ≤ w.heap.size + 1; omega) _).setCell (p := ⟨w.heap.size + 1 + 1, 0, none⟩) (by show w.heap.size ≤ w.heap.size + 1 + 1; omega) _
/-- ambry/part.Parse. -/
theorem part_Parse.calls (k : Nat) (a0 : ByteArray) (a1 : Int) (r1 : List S56) (r2 : Int) (w : World) (h : part_Parse.f k a0 a1 = some (r1, r2)) :
    Calls Tryz.prog 9 #[.string a0, .int .i64 a1] w fun e w' => ∃ v0_ : Value, e = .returned (.tuple #[v0_, .int .i64 r2]) ∧ Kd.R k56 56 w' w.heap.size (fun _ => True) v0_ r1 ∧ Below w.heap.size w w' := by
  unfold part_Parse.f at h
  by_cases hs : a0.size < 6
  · rw [if_pos hs] at h
    injection h with h; injection h with h1 h2
    subst h1; subst h2
    exact (part_Parse.short k a0 a1 w hs).mono fun e w' ⟨h1, h2⟩ => ⟨_, h1, Kd.R_nil _ _ _ _ _, h2⟩
  · rw [if_neg hs] at h
    obtain ⟨b, hb, h⟩ := Option.bind_eq_some_iff.mp h
    cases b with
    | false =>
      rw [if_pos rfl] at h
      injection h with h; injection h with h1 h2
      subst h1; subst h2
      exact (part_Parse.calls0 k a0 a1 w hs hb).mono fun e w' ⟨h1, h2⟩ => ⟨_, h1, Kd.R_nil _ _ _ _ _, h2⟩
    | true =>
      rw [if_neg (by decide)] at h
      by_cases hz : a0.size ≤ 9223372036854775806
      · rw [if_pos hz] at h
        exact part_Parse.loops k a0 a1 r1 r2 w hs hb hz h
      · rw [if_neg hz] at h; cases h
end Go.Proofs.YtacgmcmnnogbbaaGreatDoor.PX

