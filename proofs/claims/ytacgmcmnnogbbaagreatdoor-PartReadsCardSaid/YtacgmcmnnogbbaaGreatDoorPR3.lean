import Derived.Deep.RegionLawGrows
import Derived.Test.YtacgmcmnnogbbaaGreatDoorPR2
namespace Go.Proofs.YtacgmcmnnogbbaaGreatDoor.PX
open Go.RowKit Go.Proofs.YtacgmcmnnogbbaaGreatDoorW.PrintWords Go.Proofs.YtacgmcmnnogbbaaGreatDoorW.PrintLast Go.Proofs.YtacgmcmnnogbbaaGreatDoorW.PrintMore
section
variable {P : Program} {ops : Array Oper} {Q : Exit → Act → World → Prop}
theorem goesF_ {oi : Oper} {N : Option Tmp} {a : Act} {w : World} {K : Act → World → Prop} {f : FuncId} {fn : Func} {c : Operand} {as_ : Array Operand} {ts : Array TypeId} (hf : P.funcs[f]? = some fn) (hname : (fn.name == "runtime.NumGoroutine") = false) (hb : fn.body.isSome = true) (args : Array Value)
    (hw : Region.wanted oi (yielded ops a.tmps) = true) (hN : oi.dst = N) (hop : oi.op = .call { callee := .value c, args := as_, argTypes := ts }) (hc : a.eval c = .func (.func f) #[] #[]) (hargs : as_.map a.eval = args)
    (h : Calls P f args w fun e w' => ∃ v, e = .returned v ∧ K (a.put N v) w') : if Region.wanted oi (yielded ops a.tmps) = true then Oper.wp P oi a w K Q else K (a.put N undef) w := by
  refine call_ f args hw hN ?_ h
  have he := enters_ hf hname hb args w
  unfold execOp
  simp [hop, hc, resolve, Deferred.ofValue, invoke, hargs, he]
/-- 's[:h:h]'. -/
theorem cut_hm (t e : TypeId) {i : TypeInfo} (ht : P.underlying t = some (.slice e)) (hi : P.info? e = some i) (A : Option Addr) (n c : Nat) (j : Int) (h0 : 0 ≤ j) (hm : j ≤ n) (hc : n ≤ c) :
    ∀ W : World, (Instr.slice t (.slice A n c) none (some (.int .i64 j)) (some (.int .i64 j))).run P W = .ok (.slice A j.toNat j.toNat) W := by
  intro W
  have hel : P.elem t = e := by simp [Program.elem, ht]
  have hu : P.underlying t = some (.slice (P.elem t)) := by rw [hel]; exact ht
  have ha : (A.map fun x => x.add 0) = A := by cases A <;> simp [Addr.add]
  rw [run_slice_hm W t A n c hu .i64 .i64 j j h0 (Int.le_refl _) (by omega), hel]
  simp [sizeOf, typeInfo, hi, sliced, Result.andThen, ha]
/-- 'append(s[:n:n], y..)', y not empty: a new row. (Kinds whose elements lead nowhere.) -/
theorem R_append_cap_step {α : Type} (d : Kd α) {Rr Rr' : α → List Value → Prop} {o : Oper} {a : Act} {K : Act → World → Prop} {w0 W : World} (base : Nat) (hgd : o.guard = none) (s x : Operand) (t e : TypeId) (z : Value) (bytes : Nat)
    (ho : o.op = .call { callee := .builtin .append, args := #[s, x], argTypes := #[t, t] })
    (ht : P.underlying t = some (.slice e)) (hinfo : (P.info? e).map (fun i => (i.zero, i.size, i.bytes)) = some (some z, d.sz, bytes)) (hz : z.cells.size = d.sz) (hs0 : 0 < d.sz) (hb0 : 0 < bytes)
    (xs ys : List α) (A A2 : Option Addr) (n m c : Nat) (hs : a.eval s = .slice A n n) (hx : a.eval x = .slice A2 m c) (hm0 : 0 < m)
    (HR : ReadsRow Rr d.sz W A n xs) (HR2 : ReadsRow Rr' d.sz W A2 m ys) (hA : A = none → n = 0)
    (hKM : ∀ w b k x cs, Rr x cs → d.M w b k x cs) (hKM' : ∀ w b k x cs, Rr' x cs → d.M w b k x cs)
    (HB : Below base w0 W) (hbase : base ≤ W.heap.size) (hl : (n + m) * bytes ≤ 140737488355328)
    (h : ∀ v1 w1, d.R e w1 base (fun _ => True) v1 (xs ++ ys) → Below base w0 w1 → W.grownBy w1 none → K (a.put o.dst v1) w1) :
    if Region.wanted o (yielded ops a.tmps) = true then Oper.wp P o a W K Q else K (a.put o.dst undef) W := by
  obtain ⟨i0, hi, hzz⟩ := Option.map_eq_some_iff.1 hinfo
  simp only [Prod.mk.injEq] at hzz
  obtain ⟨hz0, hz1, hz2⟩ := hzz
  obtain ⟨ad2, rfl, _⟩ := HR2.2.2 hm0
  obtain ⟨news, hnr, hnc⟩ := ReadsRow.inner_ HR2
  have hn2 : ys.length = m := HR2.1
  have hn1 : xs.length = n := HR.1
  have hlen : n + m ≤ 140737488355328 := Nat.le_trans (Nat.le_mul_of_pos_right _ hb0) hl
  have hol : ∃ olds, Reps Rr d.sz xs olds ∧ ∀ b, A = some b → ∀ j u, olds[j]? = some u → W.cell? (b.add j) = some u := by
    rcases A with _ | b
    · have h0 := hA rfl
      have : xs = [] := List.eq_nil_of_length_eq_zero (by omega)
      subst this
      exact ⟨[], Reps.none _ _, fun b hb => by cases hb⟩
    · obtain ⟨olds, h1, h2⟩ := ReadsRow.inner_ HR
      exact ⟨olds, h1, fun b' hb' => by injection hb' with hb'; subst hb'; exact h2⟩
  obtain ⟨olds, hor, hoc⟩ := hol
  have hrep : ∀ w1 b k, Reps (d.M w1 b k) d.sz (xs ++ ys) (olds ++ news) := fun w1 b k => Kd.reps_append (hor.imp_ (fun p cs hp => hKM _ _ _ _ _ hp)) (hnr.imp_ (fun p cs hp => hKM' _ _ _ _ _ hp))
  have hnM := hnr.imp_ (fun p cs hp => hKM' W base (fun _ => True) p cs hp)
  have hone : ∀ u ∈ news, u.oneCell' = true := by
    intro u hu
    obtain ⟨q, hq, rfl⟩ := List.mem_iff_getElem.1 hu
    have hql : q / d.sz < ys.length := by
      rw [Nat.div_lt_iff_lt_mul hs0]
      rw [← hnM.1]
      exact hq
    have hc := hnM.2 (q / d.sz) _ (List.getElem?_eq_getElem hql)
    refine d.K_one (d.K_of_M hc) _ ?_
    rw [List.mem_iff_getElem?]
    refine ⟨q % d.sz, ?_⟩
    rw [List.getElem?_take, if_pos (Nat.mod_lt _ hs0), List.getElem?_drop, Nat.mul_comm, Nat.div_add_mod, List.getElem?_eq_getElem hq]
  refine step_append_grows hgd s x t ho e i0 z d.sz bytes ht hi hz0 hz1 hz2 hz hs0 A n n olds hs (fun hn => ⟨hA hn, hA hn⟩) (by rw [hor.1, hn1]) hoc ad2 m c news hx (by rw [hnr.1, hn2]) hnc hone (by omega) (by simp only [maxLen]; omega) hl ?_
  intro v' w' hown hg
  refine h v' w' ⟨fun _ _ => trivial, olds ++ news, ?_, hrep _ _ _⟩ (HB.grown hg hbase (fun k hk => by cases hk)) hg
  rw [List.length_append, hn1, hn2]
  exact own_weaken hown hbase
/-- A region that draws its order, all that was there when it began held. -/
theorem start_below {id n : Nat} {a : Act} {w : World} (l : Array Bool) (hm : P.follows .mixedOrders = true) (hn : ops.size = n) (hl : Array.replicate n false = l)
    (h : ∀ wq, Below w.heap.size w wq → wpAnyLast P .any ops Q (fun w' => Below w.heap.size w w') [] n l a wq) : (Code.region id ops true).wp P Q a w :=
  start_ (S := fun w' => Below w.heap.size w w') (ds := []) l hm hn hl (below_drew (Below.refl _ _)) (fun hS => h _ hS)
theorem own_ge {w wq : World} {v : Value} (hH : Below w.heap.size w wq) (h : ∃ b, v.ownBlock = some b ∧ wq.heap.size ≤ b) : ∀ k, v.ownBlock = some k → w.heap.size ≤ k := by
  intro k hk
  obtain ⟨b, hb, hl⟩ := h
  rw [hb] at hk
  injection hk with hk
  have := hH.size
  omega
end
end Go.Proofs.YtacgmcmnnogbbaaGreatDoor.PX

