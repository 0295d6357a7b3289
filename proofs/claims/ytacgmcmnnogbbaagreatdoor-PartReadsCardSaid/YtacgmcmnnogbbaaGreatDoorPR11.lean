import Derived.RangeFuncBox
import Derived.RangeFuncNested
import Derived.RangeFuncBound
import Derived.RangeFuncCalls
import Derived.RangeFuncLeaves
import Derived.Shelf.Abstract
import Derived.Shelf.RegionOpen
import Derived.WalkKit
import Derived.OwnWalkIn
import Derived.TacticsInMore
import Derived.LoopNIn
import Derived.LoopIn
import Derived.Lib.IndexLaws
import Derived.Test.YtacgmcmnnogbbaaGreatDoorPR1
import Derived.Test.YtacgmcmnnogbbaaGreatDoorPR2
namespace Go.Proofs.YtacgmcmnnogbbaaGreatDoor.PX
open Go.RowKit Go.Shelf Go.Proofs
set_option linter.unusedVariables false
set_option linter.unusedSimpArgs false
def cutsL (c : UInt8) : List UInt8 → List (List UInt8)
  | [] => [[]]
  | b :: l => if b == c then [] :: cutsL c l else (match cutsL c l with | [] => [[b]] | p :: ps => (b :: p) :: ps)
theorem cutsL_cons (c b : UInt8) (l : List UInt8) : cutsL c (b :: l) = if b == c then [] :: cutsL c l else (match cutsL c l with | [] => [[b]] | p :: ps => (b :: p) :: ps) := rfl
theorem cutsL_ne (c : UInt8) (l : List UInt8) : cutsL c l ≠ [] := by
  cases l with
  | nil => simp [cutsL]
  | cons b l =>
    unfold cutsL
    split
    · simp
    · split <;> simp
theorem cutsL_none (c : UInt8) : ∀ l : List UInt8, Lib.indexByte l c < 0 → cutsL c l = [l]
  | [], _ => rfl
  | b :: l, h => by
    unfold Lib.indexByte at h
    rw [cutsL_cons]
    have hge := Lib.indexByte_ge l c
    cases hb : (b == c)
    · rw [hb] at h
      simp only [Bool.false_eq_true, if_false] at h ⊢
      have h1 : Lib.indexByte l c < 0 := by
        by_cases e : (Lib.indexByte l c == -1) = true
        · have := beq_iff_eq.1 e; omega
        · rw [if_neg e] at h; omega
      rw [cutsL_none c l h1]
    · rw [hb, if_pos rfl] at h; omega
theorem cutsL_some (c : UInt8) : ∀ (l : List UInt8) (i : Nat), Lib.indexByte l c = i → cutsL c l = l.take i :: cutsL c (l.drop (i + 1))
  | [], i, h => by have : (-1 : Int) = i := h; omega
  | b :: l, i, h => by
    unfold Lib.indexByte at h
    rw [cutsL_cons]
    have hge := Lib.indexByte_ge l c
    cases hb : (b == c)
    · rw [hb] at h
      simp only [Bool.false_eq_true, if_false] at h ⊢
      by_cases e : (Lib.indexByte l c == -1) = true
      · rw [if_pos e] at h; omega
      · rw [if_neg e] at h
        have hne : Lib.indexByte l c ≠ -1 := fun x => e (by rw [x]; rfl)
        obtain ⟨j, rfl⟩ : ∃ j, i = j + 1 := ⟨i - 1, by omega⟩
        rw [cutsL_some c l j (by push_cast at h; omega)]
        rfl
    · rw [hb] at h
      simp only [if_true] at h ⊢
      obtain rfl : i = 0 := by omega
      rfl
def cuts (c : UInt8) (s : ByteArray) : List ByteArray := (cutsL c s.data.toList).map fun l => ⟨l.toArray⟩
theorem ba_eq {a b : ByteArray} (h : a.data.toList = b.data.toList) : a = b := by
  rcases a with ⟨⟨a⟩⟩; rcases b with ⟨⟨b⟩⟩; simp at h; rw [h]
theorem cuts_none {c : UInt8} {s : ByteArray} (h : Lib.indexByte s.data.toList c < 0) : cuts c s = [s] := by
  unfold cuts; rw [cutsL_none c _ h]; rfl
theorem cuts_some {c : UInt8} {s : ByteArray} {i : Nat} (h : Lib.indexByte s.data.toList c = i) : cuts c s = s.extract 0 i :: cuts c (s.extract (i + 1) s.size) := by
  unfold cuts; rw [cutsL_some c _ i h, List.map_cons]
  congr 1
  · exact ba_eq (by simp)
  · congr 2
    rw [ByteArray.data_extract, Array.toList_extract, List.extract_eq_take_drop]
    rw [List.take_of_length_le]
    rw [List.length_drop, Array.length_toList]
    exact Nat.le_refl _
/-- An invariant abides whatever leaves all blocks but Bs as_ they lay. -/
def AbC {β : Type} (Bs : Nat) (J : β → World → Prop) : Prop := ∀ s W W', J s W → W.grownBy W' (some Bs) → J s W'
theorem AbC.and {β : Type} {Bs : Nat} {I J : β → World → Prop} (h : AbC Bs I) (k : AbC Bs J) : AbC Bs (fun s W => I s W ∧ J s W) := fun s W W' hs hg => ⟨h s W W' hs.1 hg, k s W W' hs.2 hg⟩
/-- An iterator that hands out just the elements of xs, in order, and turns no block of old but Bs. -/
def SeqC {α : Type} (F : Fence) (n : Nat) (P : Program) (g : Nat) (lb : Array Value) (enc : α → Value) (Kp : World → World → Prop) (xs : List α) (Bs : Nat) (w : World) : Prop :=
  ∀ (l : Nat) (J Jx : List α → World → Prop) (W : World), Below w.heap.size w W → AbC Bs J →
    (∀ pre x W1, J pre W1 → pre ++ [x] <+: xs → YieldAt F (n - 1) P l #[enc x] W1 fun e W' => (e = .returned (.bool true) ∧ J (pre ++ [x]) W' ∧ Kp W1 W') ∨ (e = .returned (.bool false) ∧ Jx (pre ++ [x]) W')) →
    J [] W → CallsIn F n P g (#[.func (.yield l) #[] #[]] ++ lb) W fun e W' => (∃ v, e = .returned v) ∧ (J xs W' ∨ ∃ pre, Jx pre W')
variable {F : Fence} {n : Nat} {P : Program}
/-- The statement 'for x := range seq { .. }' over such an iterator, in a function's outermost code; a round may leave by 'return' alone. -/
theorem wpIn_rangeC {α : Type} {g : Operand} {p : Tmp} {assign body : Code} {Q : Exit → Act → World → Prop} {a : Act} {w : World}
    (hro : F.round = none) (h1 : 1 ≤ n) {gf : Nat} {lb : Array Value} (hg : a.eval g = .func (.func gf) #[] lb) (hFg : F.fn gf) (eg : ∀ args w, (callFunc gf args).run P w = .ok (.enter gf args) w)
    {enc : α → Value} {Kp : World → World → Prop} {xs : List α} {Bs : Nat} {w0 : World} (hseq : SeqC F (n - 1) P gf lb enc Kp xs Bs w0) (hBs : Bs < w.heap.size)
    (hKt : ∀ {A B C : World}, Kp A B → Kp B C → Kp A C) (hKb : ∀ (W : World) (l : Nat) (o o' : Obj), w.heap.size ≤ l → W.heap[l]? = some o → o.isCells = false → Kp W (W.putObj l o')) (hb0 : Below w0.heap.size w0 w)
    (I Ix : List α → World → Prop) (hI : OwnFrom w.heap.size I) (hIs : AbC Bs I) (hIx : OwnFrom w.heap.size Ix) (h0 : I [] w) (a₁ : α → Act)
    (hassign : ∀ (l : Nat) (x : α) (W : World) (K : Act → World → Prop), K (a₁ x) W →
      assign.wpIn (F.inRound l) (n - 1 - 1) P (Exit.then K (fun _ _ _ => False)) { tmps := ((#[p] : Array Tmp).zip #[enc x]).foldl (fun t (p, v) => t.setIfInBounds p v) a.tmps, defers := [] } W)
    (hbody : ∀ (l : Nat) (pre : List α) (x : α) (W : World), I pre W → pre ++ [x] <+: xs →
      body.wpIn (F.inRound l) (n - 1 - 1) P (ownPostK Kp I (fun c s W' => c = .ret ∧ Ix s W') (pre ++ [x]) W) (a₁ x) W)
    (hdone : ∀ (D : Nat) (W : World), w.heap.size ≤ D → I xs W → W.heap[D]? = some (.deferred (some [])) → Q .normal { a with defers := { target := .collected D, args := #[] } :: a.defers } W)
    (hstop : ∀ (D : Nat) (pre : List α) (W : World), w.heap.size ≤ D → Ix pre W → W.heap[D]? = some (.deferred (some [])) → Code.ret.wpIn F n P Q { a with defers := { target := .collected D, args := #[] } :: a.defers } W) :
    (Code.rangeFunc g #[p] assign body).wpIn F n P Q a w := by
  refine wpIn_rangeFunc ?_
  intro fn hfn
  rw [hro]
  obtain ⟨S0, hS0⟩ : ∃ S, S = w.heap.size := ⟨_, rfl⟩
  obtain ⟨rec, hrec⟩ : ∃ rec : LoopState → Option Code → Loop, rec = fun st pe => { state := st, pending := pe, fn, tmps := a.tmps, params := #[p], assign, body, defers := w.heap.size } := ⟨_, rfl⟩
  obtain ⟨W1, hW1⟩ : ∃ W1, (w.alloc (.deferred (some []))).alloc (.loop (rec .ready none)) = W1 := ⟨_, rfl⟩
  have hL1 : W1.heap[w.heap.size + 1]? = some (.loop (rec .ready none)) := by
    rw [← hW1]; have := World.alloc_heap_new (w.alloc (.deferred (some []))) (.loop (rec .ready none)); rwa [World.size_alloc] at this
  have hD1 : W1.heap[w.heap.size]? = some (.deferred (some [])) := by
    rw [← hW1]; exact (Below.heap_alloc _ _ _ (by simp)).trans (World.alloc_heap_new w _)
  have hI1 : I [] W1 := by rw [← hW1]; exact hI.alloc _ (hI.alloc _ h0)
  have hb1 : Below w0.heap.size w0 W1 := by
    rw [← hW1]; exact hb0.trans ((((Below.refl _ w).alloc (Nat.le_refl _) _).alloc (by simp) _).mono hb0.size)
  have lies : ∀ {A B : World} {k : Nat} {o : Obj}, w.heap.size ≤ k → A.heap[k]? = some o → A.grownBy B (some Bs) → B.heap[k]? = some o := fun hk ho hgr =>
    (hgr.block _ (Array.getElem?_eq_some_iff.1 ho).1 (by intro e; injection e with e; omega)).trans ho
  refine ⟨w.heap.size + 1, [{ target := .collected w.heap.size, args := #[] }], W1, { target := .fn (.func gf) lb, args := #[.func (.yield (w.heap.size + 1)) #[] #[]] }, W1, gf,
    #[.func (.yield (w.heap.size + 1)) #[] #[]] ++ lb, W1, ?_, ?_, ?_, ?_, fun _ => h1, ?_⟩
  · rw [← hW1, hrec]; exact run_enterLoop_outer _ _ _ _ _
  · simp only [resolve, hg]
    simp [go_sem]
  · intro f' hf'; simp [Target.leads] at hf'; subst hf'; exact hFg
  · simp [invoke, go_sem, eg]
  · refine (hseq (w.heap.size + 1)
      (fun pre W => I pre W ∧ W.heap[w.heap.size + 1]? = some (.loop (rec .ready none)) ∧ W.heap[w.heap.size]? = some (.deferred (some [])))
      (fun pre W => Ix pre W ∧ W.heap[w.heap.size + 1]? = some (.loop (rec .done (some .ret))) ∧ W.heap[w.heap.size]? = some (.deferred (some [])))
      W1 hb1
      (fun s A B hs hgr => ⟨hIs s A B hs.1 hgr, lies (by omega) hs.2.1 hgr, lies (by omega) hs.2.2 hgr⟩)
      ?_ ⟨hI1, hL1, hD1⟩).mono ?_
    · rintro pre x W ⟨hi, hl, hk⟩ hpre
      have hlt : w.heap.size + 1 < W.heap.size := (Array.getElem?_eq_some_iff.1 hl).1
      have hy := run_yield (P := P) (args := #[enc x]) hl (by rw [hrec]; rfl)
      rw [hrec] at hy
      refine ⟨fn, _, assign, body, hy, roundIn_of_wpIn hfn (hassign _ x W _ ⟨_, run_beginRound hl (by rw [hrec]), ?_⟩)⟩
      obtain ⟨W2, hW2⟩ : ∃ W2, W.putObj (w.heap.size + 1) (.loop { rec .ready none with state := .busy }) = W2 := ⟨_, rfl⟩
      rw [hW2]
      have hl2 : W2.heap[w.heap.size + 1]? = some (.loop { rec .ready none with state := .busy }) := by rw [← hW2]; exact World.putObj_heap_same hlt
      have hk2 : W2.heap[w.heap.size]? = some (.deferred (some [])) := by rw [← hW2]; exact (World.putObj_heap_other (by omega)).trans hk
      have hw2 : Kp W W2 := by rw [← hW2]; exact hKb _ _ _ _ (by omega) hl rfl
      have hi2 : I pre W2 := by rw [← hW2]; exact hI.putObj _ hi (by omega) hl rfl
      refine wpIn_mono (hbody _ pre x _ hi2 hpre) ?_
      have fin : ∀ (jump : Option Code) (W3 : World), KeepsOthers W2 W3 →
          W3.heap[w.heap.size + 1]? = some (.loop { rec .ready none with state := .busy }) ∧
          (Instr.endRound (w.heap.size + 1) jump).run P W3 = .ok (.bool jump.isNone) (W3.putObj (w.heap.size + 1) (.loop (rec (if jump.isNone then .ready else .done) jump))) ∧
          (W3.putObj (w.heap.size + 1) (.loop (rec (if jump.isNone then .ready else .done) jump))).heap[w.heap.size + 1]? = some (.loop (rec (if jump.isNone then .ready else .done) jump)) ∧
          (W3.putObj (w.heap.size + 1) (.loop (rec (if jump.isNone then .ready else .done) jump))).heap[w.heap.size]? = some (.deferred (some [])) := fun jump W3 hk3 => by
        have hl3 := hk3.same _ _ hl2 rfl
        have hr := run_endRound (P := P) jump hl3
        rw [hrec] at hr ⊢
        exact ⟨by rw [hrec] at hl3; exact hl3, hr, World.putObj_heap_same (Array.getElem?_eq_some_iff.1 hl3).1, (World.putObj_heap_other (by omega)).trans (hk3.same _ _ hk2 rfl)⟩
      rintro e a3 W3 hp
      cases e with
      | normal =>
        obtain ⟨hk3, hkp3, hi3⟩ := hp
        obtain ⟨hl3, hr, hl4, hk4⟩ := fin none W3 hk3
        exact ⟨_, _, hr, .inl ⟨rfl, ⟨hI.putObj _ hi3 (by omega) hl3 rfl, hl4, hk4⟩, hKt (hKt hw2 hkp3) (hKb _ _ _ _ (by omega) hl3 rfl)⟩⟩
      | ret =>
        obtain ⟨hk3, _, hi3⟩ := hp
        obtain ⟨hl3, hr, hl4, hk4⟩ := fin (some .ret) W3 hk3
        exact ⟨_, _, hr, .inr ⟨rfl, hIx.putObj _ hi3 (by omega) hl3 rfl, hl4, hk4⟩⟩
      | exit id => exact nomatch hp.2.1
      | goto t => exact nomatch hp.2.1
      | panic ch => exact hp.elim
      | outgrown => exact hp.elim
    · rintro e W2 ⟨⟨v, rfl⟩, (⟨hi, hl, hk⟩ | ⟨pre, hi, hl, hk⟩)⟩
      · exact ⟨none, _, by have := run_endLoop (P := P) hl (by rw [hrec]; simp); rw [hrec] at this; exact this, hdone _ _ (Nat.le_refl _) (hI.putObj _ hi (by omega) hl rfl) ((World.putObj_heap_other (by omega)).trans hk)⟩
      · exact ⟨some .ret, _, by have := run_endLoop (P := P) hl (by rw [hrec]; simp); rw [hrec] at this; exact this, hstop _ pre _ (Nat.le_refl _) (hIx.putObj _ hi (by omega) hl rfl) ((World.putObj_heap_other (by omega)).trans hk)⟩
attribute [local go_sem] Oper.semAt_some
set_option maxHeartbeats 2000000 in
set_option maxRecDepth 100000 in
theorem strings_Index1.calls (s : ByteArray) (c : UInt8) (w : World) :
    Calls Tryz.prog 98 #[.string s, .string ⟨#[c]⟩] w fun e w' => e = .returned (.int .i64 (Lib.indexByte s.data.toList c)) ∧ w' = w := by
  go_enter Tryz.func98, Tryz.ntmps98
  go_wp2_with (go_at_call 128; refine (Tryz.stringslite_Index_one s c _).mono ?_; rintro e w' ⟨rfl, rfl⟩)
  go_ret
  exact ⟨rfl, rfl⟩
/-- What a round that goes on keeps. -/
def KpC (n₀ b0 : Nat) (W W' : World) : Prop := Below n₀ W W' ∧ ∀ j, b0 ≤ j → j < b0 + 3 → W'.heap[j]? = W.heap[j]?
theorem Boxed.lies {W W' : World} {B : Nat} {t : TypeId} {v : Value} (h : Boxed W B t v) (e : W'.heap[B]? = W.heap[B]?) : Boxed W' B t v := e.trans h
theorem Boxed.setOther {W : World} {B B' : Nat} {t : TypeId} {v v' : Value} (h : Boxed W B t v) (hne : B ≠ B') : Boxed (W.setCell ⟨B', 0, none⟩ v') B t v := (Below.heap_setCell _ _ _ B hne).trans h
def boxStr (W : World) (B : Nat) : Nat := match W.cell? ⟨B, 0, none⟩ with | some (.string t) => t.size | _ => 0
theorem boxStr_eq {W : World} {B : Nat} {T : TypeId} {t : ByteArray} (h : Boxed W B T (.string t)) : boxStr W B = t.size := by unfold boxStr; rw [h.cell]
set_option maxHeartbeats 4000000 in
set_option maxRecDepth 100000 in
theorem splitSeq1.seq (n n₀ b0 : Nat) (c : UInt8) (s : ByteArray) (hsz : s.size ≤ 9223372036854775806) (w : World) (hs : Boxed w b0 9 (.string s)) (hp : Boxed w (b0 + 1) 9 (.string ⟨#[c]⟩)) (hv : Boxed w (b0 + 2) 3 (.int .i64 0)) :
    SeqC Fence.wide n Tryz.prog 96 #[.pointer (some ⟨b0 + 1, 0, none⟩), .pointer (some ⟨b0, 0, none⟩), .pointer (some ⟨b0 + 2, 0, none⟩)] Value.string (KpC n₀ b0) (cuts c s) b0 w := by
  intro l J Jx W hW hJ hY h0
  have hs1 := Boxed.lies hs (hW.block _ hs.lt)
  have hp1 := Boxed.lies hp (hW.block _ hp.lt)
  have hv1 := Boxed.lies hv (hW.block _ hv.lt)
  refine callsIn_of_wp Tryz.func96 rfl trivial ?_ rfl
  simp only [Tryz.ntmps96, List.size_toArray, List.length_cons, List.length_nil, Nat.reduceAdd, Nat.reduceSub, Array.replicate_succ, Array.replicate_zero, List.push_toArray, List.append_toArray, List.nil_append, List.cons_append]
  have k1 := hs1.cell
  have k2 := hp1.cell
  gi_wp2
  clear k1 k2
  gi_loopw [7] (fun i wr => ∃ (pre : List ByteArray) (t : ByteArray), cuts c s = pre ++ cuts c t ∧ t.size ≤ 9223372036854775806 ∧ Boxed wr b0 9 (.string t) ∧ Boxed wr (b0 + 1) 9 (.string ⟨#[c]⟩) ∧ Boxed wr (b0 + 2) 3 (.int .i64 0) ∧ J pre wr)
    (fun i wr => boxStr wr b0)
  case atStart => exact ⟨[], s, rfl, hsz, hs1, hp1, hv1, h0⟩
  case round =>
    obtain ⟨pre, t, hx, ht, bs, bp, bv, hj⟩ := hrel
    have k1 := bs.cell
    have k2 := bp.cell
    have k3 := bv.cell
    have k4 := bs.frozen
    by_cases hi : Lib.indexByte t.data.toList c < 0
    · have hi' : Lib.indexByte t.data.toList c = -1 := by have := Lib.indexByte_ge t.data.toList c; omega
      rw [cuts_none hi] at hx
      obtain ⟨fn, tmps, assign, body, hy, hR⟩ := hY pre t wr hj ⟨[], by rw [hx]; simp⟩
      gi_wp2_with (refine ⟨trivial, fun h => absurd h (by decide), ?_⟩; gi_at_call 98; refine (callsIn_wide.2 (strings_Index1.calls t c _)).mono ?_; rintro e w' ⟨rfl, rfl⟩; rw [hi'])
      refine ⟨fun h => absurd h (by decide), hR.mono ?_⟩
      rintro e W3 (⟨rfl, hJ3, hk3⟩ | ⟨rfl, hJx3⟩)
      · gi_wp2
        go_end0
        exact ⟨⟨_, rfl⟩, .inl (by rw [hx]; exact hJ3)⟩
      · gi_wp2
        go_end0
        exact ⟨⟨_, rfl⟩, .inr ⟨_, hJx3⟩⟩
    · obtain ⟨i, hi'⟩ : ∃ i : Nat, Lib.indexByte t.data.toList c = i := ⟨(Lib.indexByte t.data.toList c).toNat, by omega⟩
      have hlt : i < t.size := by
        have := (Lib.indexByte_some hi').1
        exact (List.getElem?_eq_some_iff.1 this).1
      rw [cuts_some hi'] at hx
      obtain ⟨fn, tmps, assign, body, hy, hR⟩ := hY pre (t.extract 0 i) wr hj ⟨cuts c (t.extract (i + 1) t.size), by rw [hx]; simp⟩
      gi_wp2_with (refine ⟨trivial, fun h => absurd h (by decide), ?_⟩; gi_at_call 98; refine (callsIn_wide.2 (strings_Index1.calls t c _)).mono ?_; rintro e w' ⟨rfl, rfl⟩; rw [hi'])
      refine ⟨fun h => absurd h (by decide), hR.mono ?_⟩
      rintro e W3 (⟨rfl, hJ3, hk3⟩ | ⟨rfl, hJx3⟩)
      · have bs3 := Boxed.lies bs (hk3.2 b0 (by omega) (by omega))
        have bp3 := Boxed.lies bp (hk3.2 (b0 + 1) (by omega) (by omega))
        have bv3 := Boxed.lies bv (hk3.2 (b0 + 2) (by omega) (by omega))
        have m1 := bs3.cell
        have m2 := bp3.cell
        have m3 := bs3.frozen
        clear k1 k2 k3 k4
        have c2 : (i : Int) + 1 ≤ (t.size : Int) := by omega
        gi_wp2
        go_roundw
        case rel => exact ⟨pre ++ [t.extract 0 i], t.extract (i + 1) t.size, by rw [hx]; simp, by simp; omega, bs3.set _, Boxed.setOther bp3 (by omega), Boxed.setOther bv3 (by omega), hJ _ _ _ hJ3 (grownBy_setCell' _ _ _)⟩
        case measure => rw [boxStr_eq bs, boxStr_eq (bs3.set _)]; simp; omega
      · gi_wp2
        refine bodyPost_ret (results_none rfl _ _ _) rfl ?_
        exact ⟨⟨_, rfl⟩, .inr ⟨_, hJx3⟩⟩
set_option maxHeartbeats 2000000 in
set_option maxRecDepth 100000 in
theorem splitSeq.calls (s sep : ByteArray) (k : Int) (w : World) :
    Calls Tryz.prog 59 #[.string s, .string sep, .int .i64 k] w fun e w' => e = .returned (.func (.func 96) #[] #[.pointer (some ⟨w.heap.size + 1, 0, none⟩), .pointer (some ⟨w.heap.size, 0, none⟩), .pointer (some ⟨w.heap.size + 2, 0, none⟩)]) ∧
      w' = ((w.alloc (.cells #[.string s] 9)).alloc (.cells #[.string sep] 9)).alloc (.cells #[.int .i64 k] 3) := by
  go_enter Tryz.func59, Tryz.ntmps59
  go_wp2
  go_ret
  exact ⟨rfl, rfl⟩
set_option maxHeartbeats 2000000 in
set_option maxRecDepth 100000 in
theorem SplitSeq.calls (s sep : ByteArray) (w : World) :
    Calls Tryz.prog 28 #[.string s, .string sep] w fun e w' => e = .returned (.func (.func 96) #[] #[.pointer (some ⟨w.heap.size + 1, 0, none⟩), .pointer (some ⟨w.heap.size, 0, none⟩), .pointer (some ⟨w.heap.size + 2, 0, none⟩)]) ∧
      w' = ((w.alloc (.cells #[.string s] 9)).alloc (.cells #[.string sep] 9)).alloc (.cells #[.int .i64 0] 3) := by
  go_enter Tryz.func28, Tryz.ntmps28
  go_wp2_with (go_at_call 59; refine (splitSeq.calls s sep 0 _).mono ?_; rintro e w' ⟨rfl, rfl⟩)
  go_ret
  exact ⟨rfl, rfl⟩
end Go.Proofs.YtacgmcmnnogbbaaGreatDoor.PX

