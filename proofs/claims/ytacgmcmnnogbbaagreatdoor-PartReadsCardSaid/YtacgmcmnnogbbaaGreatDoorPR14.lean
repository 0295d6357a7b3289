import Derived.Deep.RegionWith
import Derived.Test.YtacgmcmnnogbbaaGreatDoorPR2
import Derived.Test.YtacgmcmnnogbbaaGreatDoorPR4
import Derived.Test.YtacgmcmnnogbbaaGreatDoorPR5
import Derived.Test.YtacgmcmnnogbbaaGreatDoorPR7
import Derived.Test.YtacgmcmnnogbbaaGreatDoorPR8
import Derived.Test.YtacgmcmnnogbbaaGreatDoorPR9
import Derived.Test.YtacgmcmnnogbbaaGreatDoorPR12
import Derived.Test.YtacgmcmnnogbbaaGreatDoorPR13
namespace Go.Proofs.YtacgmcmnnogbbaaGreatDoor.PX
open Go.RowKit Go.Proofs Go.Proofs.YtacgmcmnnogbbaaGreatDoorW.PrintWords Go.Proofs.YtacgmcmnnogbbaaGreatDoorW.PrintLast Go.Proofs.YtacgmcmnnogbbaaGreatDoorW.PrintMore
set_option linter.unusedVariables false
set_option linter.unusedSimpArgs false
noncomputable def apply_p3 : Code := match Tryz.f17.body with | some (.seq _ (.seq _ (.seq _ p))) => p | _ => .skip
noncomputable def apply_p5 : Code := match Tryz.f17.body with | some (.seq _ (.seq _ (.seq _ (.seq _ p)))) => p | _ => .skip
noncomputable def apply_p6 : Code := match Tryz.f17.body with | some (.seq _ (.seq _ (.seq _ (.seq _ (.seq _ p))))) => p | _ => .skip
/-- What is known between the regions. -/
structure PA (H : Nat) (w : World) (q0 q1 : ByteArray) (A2 : Option Addr) (c2 : Nat) (l2 : List S50) (A3 : Option Addr) (n3 c3 : Nat) (s0 : Int) (s1 : ByteArray) (sf : List S50) (sb : List Int) (E2 : Option Addr) (g2 : Nat) (E3 : Option Addr) (g3 : Nat) (W : World) : Prop where
  q : W.heap[H]? = some (.cells #[.string q0, .string q1, .slice A2 l2.length c2, .slice A3 n3 c3] 35 (0, 0))
  r : W.heap[H + 1]? = some (.cells #[.int .i64 s0, .string s1, .slice E2 sf.length g2, .slice E3 sb.length g3] 37 (0, 0))
  z : W.heap[H + 1 + 1]? = some (.cells #[.int .i64 0, .string ⟨#[]⟩, .slice none 0 0, .slice none 0 0] 37 (0, 0))
  R2 : Kd.R k50 50 W (H + 3) (fun _ => True) (.slice E2 sf.length g2) sf
  R3 : Kd.R (Kd.int .u8) 5 W (H + 3) (fun _ => True) (.slice E3 sb.length g3) sb
  cq : Kd.C k50 W A2 l2.length l2
  below : Below H w W
  hH : H = w.heap.size
section
variable {H : Nat} {w : World} {q0 q1 : ByteArray} {A2 : Option Addr} {c2 : Nat} {l2 : List S50} {A3 : Option Addr} {n3 c3 : Nat} {s0 : Int} {s1 : ByteArray} {sf : List S50} {sb : List Int} {E2 : Option Addr} {g2 : Nat} {E3 : Option Addr} {g3 : Nat} {W W' : World}
theorem PA.lies (h : PA H w q0 q1 A2 c2 l2 A3 n3 c3 s0 s1 sf sb E2 g2 E3 g3 W) (hb : Below W.heap.size W W') : PA H w q0 q1 A2 c2 l2 A3 n3 c3 s0 s1 sf sb E2 g2 E3 g3 W' :=
  ⟨blk_below h.q hb, blk_below h.r hb, blk_below h.z hb, Kd.R_below h.R2 hb, Kd.R_below h.R3 hb, Kd.C_below h.cq hb, h.below.trans (hb.mono (by have := h.below.size; have := h.hH; omega)), h.hH⟩
end
/-- Four stores fill a box. -/
def put4 (W : World) (g : Nat) (y0 y1 y2 y3 : Value) : World := (((W.setCell ⟨g, 0, none⟩ y0).setCell ⟨g, 1, none⟩ y1).setCell ⟨g, 2, none⟩ y2).setCell ⟨g, 3, none⟩ y3
theorem put4_box {W : World} {g : Nat} {t : TypeId} {x0 x1 x2 x3 : Value} (y0 y1 y2 y3 : Value) (h : W.heap[g]? = some (.cells #[x0, x1, x2, x3] t (0, 0))) : (put4 W g y0 y1 y2 y3).heap[g]? = some (.cells #[y0, y1, y2, y3] t (0, 0)) :=
  blk_put (blk_put (blk_put (blk_put h 0 y0 rfl) 1 y1 rfl) 2 y2 rfl) 3 y3 rfl
theorem put4_far {W : World} {g : Nat} (y0 y1 y2 y3 : Value) (j : Nat) (hj : j ≠ g) : (put4 W g y0 y1 y2 y3).heap[j]? = W.heap[j]? :=
  (Below.heap_setCell _ ⟨g, 3, none⟩ _ j hj).trans ((Below.heap_setCell _ ⟨g, 2, none⟩ _ j hj).trans ((Below.heap_setCell _ ⟨g, 1, none⟩ _ j hj).trans (Below.heap_setCell _ ⟨g, 0, none⟩ _ j hj)))
theorem put4_below {W : World} {g n₀ : Nat} (y0 y1 y2 y3 : Value) (h : n₀ ≤ g) : Below n₀ W (put4 W g y0 y1 y2 y3) :=
  ((((Below.refl n₀ W).setCell (p := ⟨g, 0, none⟩) h _).setCell (p := ⟨g, 1, none⟩) h _).setCell (p := ⟨g, 2, none⟩) h _).setCell (p := ⟨g, 3, none⟩) h _
theorem put4_grown (W : World) (g : Nat) (y0 y1 y2 y3 : Value) : W.grownBy (put4 W g y0 y1 y2 y3) (some g) :=
  have b := put4_below (W := W) (g := g) (n₀ := 0) y0 y1 y2 y3 (Nat.zero_le _)
  ⟨b.os, b.tape, b.output, b.size, fun j _ hj => put4_far y0 y1 y2 y3 j (fun e => hj (by rw [e]))⟩
/-- The facts that four stores want on their way. -/
theorem put4_way {W : World} {g : Nat} {t : TypeId} {x0 x1 x2 x3 : Value} (y0 y1 y2 : Value) (h : W.heap[g]? = some (.cells #[x0, x1, x2, x3] t (0, 0))) :
    (W.cell? ⟨g, 0, none⟩ = some x0 ∧ W.frozen? ⟨g, 0, none⟩ = false) ∧
    ((W.setCell ⟨g, 0, none⟩ y0).cell? ⟨g, 1, none⟩ = some x1 ∧ (W.setCell ⟨g, 0, none⟩ y0).frozen? ⟨g, 1, none⟩ = false) ∧
    (((W.setCell ⟨g, 0, none⟩ y0).setCell ⟨g, 1, none⟩ y1).cell? ⟨g, 2, none⟩ = some x2 ∧ ((W.setCell ⟨g, 0, none⟩ y0).setCell ⟨g, 1, none⟩ y1).frozen? ⟨g, 2, none⟩ = false) ∧
    ((((W.setCell ⟨g, 0, none⟩ y0).setCell ⟨g, 1, none⟩ y1).setCell ⟨g, 2, none⟩ y2).cell? ⟨g, 3, none⟩ = some x3 ∧ (((W.setCell ⟨g, 0, none⟩ y0).setCell ⟨g, 1, none⟩ y1).setCell ⟨g, 2, none⟩ y2).frozen? ⟨g, 3, none⟩ = false) := by
  have h1 := blk_put h 0 y0 rfl
  have h2 := blk_put h1 1 y1 rfl
  have h3 := blk_put h2 2 y2 rfl
  exact ⟨⟨blk_cell h 0, blk_frozen h 0⟩, ⟨blk_cell h1 1, blk_frozen h1 1⟩, ⟨blk_cell h2 2, blk_frozen h2 2⟩, ⟨blk_cell h3 3, blk_frozen h3 3⟩⟩
theorem out_of_own {α : Type} {d : Kd α} {e : Nat} {W : World} {base : Nat} {ok : Nat → Prop} {v : Value} {xs : List α} (h : d.R e W base ok v xs) {g : Nat} (hg : g < base) : some g ≠ v.ownBlock := fun e' => by
  obtain ⟨_, inner, ho, _⟩ := h
  have := (ho.lt g e'.symm).1
  omega
/-- strconv.Itoa tells t for n, in every world that is younger than w. -/
def ItoaAt (w : World) (n : Int) (t : ByteArray) : Prop := ∀ W, Below w.heap.size w W → Calls Tryz.prog 44 #[.int .i64 n] W fun e w' => e = .returned (.string t) ∧ Below W.heap.size W w'
theorem ItoaAt.lies {w W : World} {n : Int} {t : ByteArray} (h : ItoaAt w n t) (hb : Below w.heap.size w W) : ItoaAt W n t := fun W' hb' => h W' (hb.trans (hb'.mono hb.size))
theorem ItoaAt.small {w : World} {n : Int} {t : ByteArray} (h : strconv_Itoa.f n = some t) : ItoaAt w n t := fun W _ => (strconv_Itoa.calls n t W h).mono fun e w' ⟨h1, h2⟩ => ⟨h1, Drawn0.below h2⟩
end Go.Proofs.YtacgmcmnnogbbaaGreatDoor.PX

namespace Go.Proofs.YtacgmcmnnogbbaaGreatDoor.PX
open Go.RowKit Go.Proofs Go.Proofs.YtacgmcmnnogbbaaGreatDoorW.PrintWords Go.Proofs.YtacgmcmnnogbbaaGreatDoorW.PrintLast Go.Proofs.YtacgmcmnnogbbaaGreatDoorW.PrintMore
set_option linter.unusedVariables false
set_option linter.unusedSimpArgs false
def Qn (N : Act → World → Prop) : Exit → Act → World → Prop
  | .normal, a, w => N a w
  | _, _, _ => False
noncomputable def apply_r15 : Code := match Tryz.f17.body with
  | some (.seq _ (.seq _ (.seq _ (.seq _ (.seq _ (.seq _ (.seq _ (.seq (.seq _ (.seq _ (.block _ (.seq _ (.cond _ _ (.seq _ (.cond _ (.seq _ (.seq r _)) _))))))) _)))))))) => r
  | _ => .skip
noncomputable def apply_r16 : Code := match Tryz.f17.body with
  | some (.seq _ (.seq _ (.seq _ (.seq _ (.seq _ (.seq _ (.seq _ (.seq (.seq _ (.seq _ (.block _ (.seq _ (.cond _ _ (.seq _ (.cond _ (.seq _ (.seq _ r)) _))))))) _)))))))) => r
  | _ => .skip
set_option maxHeartbeats 4000000 in
set_option maxRecDepth 100000 in
theorem apply_15 (H : Nat) (w : World) (q0 q1 : ByteArray) (A2 : Option Addr) (c2 : Nat) (l2 : List S50) (A3 : Option Addr) (n3 c3 : Nat) (s0 : Int) (s1 : ByteArray) (sf : List S50) (sb : List Int) (E2 : Option Addr) (g2 : Nat) (E3 : Option Addr) (g3 : Nat) (W : World) (pa : Aside0 (PA H w q0 q1 A2 c2 l2 A3 n3 c3 s0 s1 sf sb E2 g2 E3 g3 W)) (X : Nat) (x0 x1 : Int) (J : Option Addr) (jn jc : Nat) (sz : ByteArray) (hx : W.heap[X]? = some (.cells #[.int .i64 x0, .int .i64 x1] 56 (0, 0))) (hX : X ≠ H + 1) (b0 : 0 ≤ x0) (b1 : x0 ≤ x1) (b2 : x1 ≤ (sb.length : Int)) (N : Act → World → Prop) (u0 u1 u5 u7 u10 u11 u12 u13 u14 u15 u16 u17 u18 u19 u20 u21 u22 u23 u24 u25 u26 u27 u28 u29 u30 u31 u32 u33 u34 u35 u36 u37 u38 u39 u40 u41 u42 u43 u44 u45 u46 u47 u48 u49 u50 u51 u52 u53 u54 u55 u56 u57 u58 u59 u60 u61 u62 u63 u64 u65 u66 u67 u68 u69 u70 u71 u72 u73 u74 u75 u76 u77 u78 u79 u80 u81 u82 u83 u84 u85 u86 u87 u88 u89 u90 u91 u92 u93 u94 u95 u96 : Value)
    (hN : N { tmps := #[u0, u1, .pointer (some ⟨H, 0, none⟩), .pointer (some ⟨H + 1, 0, none⟩), .pointer (some ⟨H + 1 + 1, 0, none⟩), u5, .slice J jn jc, u7, .string sz, .pointer (some ⟨X, 0, none⟩), u10, u11, u12, u13, u14, u15, u16, u17, u18, u19, u20, u21, u22, u23, u24, u25, u26, u27, u28, u29, u30, u31, u32, u33, u34, u35, u36, u37, u38, u39, u40, u41, u42, u43, u44, u45, u46, u47, u48, u49, u50, u51, u52, u53, u54, u55, u56, u57, u58, u59, u60, u61, u62, u63, u64, u65, u66, u67, u68, .pointer (some ⟨H + 1, 3, none⟩), .slice E3 sb.length g3, .pointer (some ⟨X, 0, none⟩), .int .i64 x0, .pointer (some ⟨X, 1, none⟩), .int .i64 x1, .slice (if g3 = x0.toNat then E3 else Option.map (fun x => x.add x0.toNat) E3) (x1.toNat - x0.toNat) (g3 - x0.toNat), .pointer (some ⟨H + 1, 0, none⟩), .pointer (some ⟨H + 1, 1, none⟩), .pointer (some ⟨H + 1, 3, none⟩), u79, u80, u81, u82, u83, u84, u85, u86, u87, u88, u89, u90, u91, u92, u93, u94, u95, u96], defers := [] } (((W.setCell ⟨H + 1, 0, none⟩ (.int .i64 206)).setCell ⟨H + 1, 1, none⟩ (.string ⟨#[80, 97, 114, 116, 105, 97, 108, 32, 67, 111, 110, 116, 101, 110, 116]⟩)).setCell ⟨H + 1, 3, none⟩ (.slice (if g3 = x0.toNat then E3 else Option.map (fun x => x.add x0.toNat) E3) (x1.toNat - x0.toNat) (g3 - x0.toNat))).drew) :
    apply_r15.wp Tryz.prog (Qn N) { tmps := #[u0, u1, .pointer (some ⟨H, 0, none⟩), .pointer (some ⟨H + 1, 0, none⟩), .pointer (some ⟨H + 1 + 1, 0, none⟩), u5, .slice J jn jc, u7, .string sz, .pointer (some ⟨X, 0, none⟩), u10, u11, u12, u13, u14, u15, u16, u17, u18, u19, u20, u21, u22, u23, u24, u25, u26, u27, u28, u29, u30, u31, u32, u33, u34, u35, u36, u37, u38, u39, u40, u41, u42, u43, u44, u45, u46, u47, u48, u49, u50, u51, u52, u53, u54, u55, u56, u57, u58, u59, u60, u61, u62, u63, u64, u65, u66, u67, u68, u69, u70, u71, u72, u73, u74, u75, u76, u77, u78, u79, u80, u81, u82, u83, u84, u85, u86, u87, u88, u89, u90, u91, u92, u93, u94, u95, u96], defers := [] } W := by
  simp only [apply_r15, Tryz.f17]
  have kr3 := blk_cell pa.out.r 3
  have kx0 := blk_cell hx 0
  have kx1 := blk_cell hx 1
  have kr0 := blk_cell pa.out.r 0
  have hx1 := blk_far hx (p := ⟨H + 1, 0, none⟩) hX (.int .i64 206)
  have hx2 := blk_far hx1 (p := ⟨H + 1, 1, none⟩) hX (.string ⟨#[80, 97, 114, 116, 105, 97, 108, 32, 67, 111, 110, 116, 101, 110, 116]⟩)
  have kx01 := blk_cell hx1 0
  have kx11 := blk_cell hx1 1
  have kx02 := blk_cell hx2 0
  have kx12 := blk_cell hx2 1
  clear hx1 hx2
  have kr1 := blk_cell pa.out.r 1
  have fr0 := blk_frozen pa.out.r 0
  have fr1 := blk_frozen pa.out.r 1
  have fr3 := blk_frozen pa.out.r 3
  have g3' := (Kd.R_reads' pa.out.R3).2.1
  have b3 : x1 ≤ (g3 : Int) := by omega
  go_wp2
  go_region
  all_goals exact hN
set_option maxHeartbeats 4000000 in
set_option maxRecDepth 100000 in
theorem apply_16 (H X k : Nat) (x0 x1 : Int) (sf nf : List S50) (E2 : Option Addr) (g2 : Nat) (y0 y1 y3 : Value) (t1 t2 sz : ByteArray) (W : World) (J : Option Addr) (jn jc : Nat)
    (hr : W.heap[H + 1]? = some (.cells #[y0, y1, .slice E2 sf.length g2, y3] 37 (0, 0))) (hx : W.heap[X]? = some (.cells #[.int .i64 x0, .int .i64 x1] 56 (0, 0)))
    (hC : Aside0 (Kd.C k50 W E2 sf.length sf)) (hg2 : sf.length ≤ g2) (w0 : World) (hw0 : Aside0 (Below w0.heap.size w0 W)) (ht1 : Aside0 (ItoaAt w0 x0 t1)) (ht2 : Aside0 (ItoaAt w0 (wrap64 (x1 - 1)) t2)) (hset : head_Set.f k sf ⟨#[67, 111, 110, 116, 101, 110, 116, 45, 82, 97, 110, 103, 101]⟩ ((((((⟨#[98, 121, 116, 101, 115, 32]⟩ : ByteArray) ++ t1) ++ (⟨#[45]⟩ : ByteArray)) ++ t2) ++ (⟨#[47]⟩ : ByteArray)) ++ sz) = some nf)
    (l1 : t1.size ≤ 1000) (l2 : t2.size ≤ 1000) (l3 : sz.size ≤ 1000) (N : Act → World → Prop)
    (hN : Aside0 (∀ (W3 : World) (D : Option Addr) (dc : Nat) (u0 u1 u5 u7 u10 u11 u12 u13 u14 u15 u16 u17 u18 u19 u20 u21 u22 u23 u24 u25 u26 u27 u28 u29 u30 u31 u32 u33 u34 u35 u36 u37 u38 u39 u40 u41 u42 u43 u44 u45 u46 u47 u48 u49 u50 u51 u52 u53 u54 u55 u56 u57 u58 u59 u60 u61 u62 u63 u64 u65 u66 u67 u68 u69 u70 u71 u72 u73 u74 u75 u76 u77 u78 u79 u80 u81 u82 u83 u84 u85 u86 u87 u88 u89 u90 u91 u92 u93 u94 u95 u96 : Value), Below W.heap.size W W3 → Kd.R k50 50 W3 W.heap.size (fun _ => True) (.slice D nf.length dc) nf → N { tmps := #[u0, u1, .pointer (some ⟨H, 0, none⟩), .pointer (some ⟨H + 1, 0, none⟩), .pointer (some ⟨H + 1 + 1, 0, none⟩), u5, .slice J jn jc, u7, .string sz, .pointer (some ⟨X, 0, none⟩), u10, u11, u12, u13, u14, u15, u16, u17, u18, u19, u20, u21, u22, u23, u24, u25, u26, u27, u28, u29, u30, u31, u32, u33, u34, u35, u36, u37, u38, u39, u40, u41, u42, u43, u44, u45, u46, u47, u48, u49, u50, u51, u52, u53, u54, u55, u56, u57, u58, u59, u60, u61, u62, u63, u64, u65, u66, u67, u68, u69, u70, u71, u72, u73, u74, u75, u76, u77, u78, u79, u80, u81, u82, u83, u84, u85, u86, u87, u88, u89, u90, u91, u92, u93, u94, u95, u96], defers := [] } (W3.setCell ⟨H + 1, 2, none⟩ (.slice D nf.length dc)))) (u0 u1 u5 u7 u10 u11 u12 u13 u14 u15 u16 u17 u18 u19 u20 u21 u22 u23 u24 u25 u26 u27 u28 u29 u30 u31 u32 u33 u34 u35 u36 u37 u38 u39 u40 u41 u42 u43 u44 u45 u46 u47 u48 u49 u50 u51 u52 u53 u54 u55 u56 u57 u58 u59 u60 u61 u62 u63 u64 u65 u66 u67 u68 u69 u70 u71 u72 u73 u74 u75 u76 u77 u78 u79 u80 u81 u82 u83 u84 u85 u86 u87 u88 u89 u90 u91 u92 u93 u94 u95 u96 : Value) :
    apply_r16.wp Tryz.prog (Qn N) { tmps := #[u0, u1, .pointer (some ⟨H, 0, none⟩), .pointer (some ⟨H + 1, 0, none⟩), .pointer (some ⟨H + 1 + 1, 0, none⟩), u5, .slice J jn jc, u7, .string sz, .pointer (some ⟨X, 0, none⟩), u10, u11, u12, u13, u14, u15, u16, u17, u18, u19, u20, u21, u22, u23, u24, u25, u26, u27, u28, u29, u30, u31, u32, u33, u34, u35, u36, u37, u38, u39, u40, u41, u42, u43, u44, u45, u46, u47, u48, u49, u50, u51, u52, u53, u54, u55, u56, u57, u58, u59, u60, u61, u62, u63, u64, u65, u66, u67, u68, u69, u70, u71, u72, u73, u74, u75, u76, u77, u78, u79, u80, u81, u82, u83, u84, u85, u86, u87, u88, u89, u90, u91, u92, u93, u94, u95, u96], defers := [] } W := by
  simp only [apply_r16, Tryz.f17]
  have kr2 := blk_cell hr 2
  have kx0 := blk_cell hx 0
  have kx1 := blk_cell hx 1
  have d1 : ¬ 9223372036854775807 < 6 + t1.size := by omega
  have d2 : ¬ 9223372036854775807 < 6 + t1.size + 1 := by omega
  have d3 : ¬ 9223372036854775807 < 6 + t1.size + 1 + t2.size := by omega
  have d4 : ¬ 9223372036854775807 < 6 + t1.size + 1 + t2.size + 1 := by omega
  have d5 : ¬ 9223372036854775807 < 6 + t1.size + 1 + t2.size + 1 + sz.size := by omega
  replace hr := Aside0.mk hr
  replace hx := Aside0.mk hx
  replace hset := Aside0.mk hset
  go_wp2
  go_region_with (first | (go_at_call 44; refine (ht1.out _ (by first | exact hw0.out | exact pw_below_drewN hw0.out _ | exact below_drew1 hw0.out)).mono ?_; clear ht1; rintro e w1 ⟨rfl, hb1⟩; have hw1 := Aside0.mk (below_then (B := W.heap.size) (w := W) (by first | exact Below.refl _ _ | exact pw_below_drewN (Below.refl _ _) _ | exact below_drew1 (Below.refl _ _)) (by exact Nat.le_refl _) hb1); clear hb1 kx0 kx1 kr2; have kx1 := blk_cell (blk_below hx.out hw1.out) 1; have kr2 := blk_cell (blk_below hr.out hw1.out) 2) | (go_at_call 44; (try simp only [i64_w]); refine (ht2.out _ (by first | exact (hw0.out.trans (hw1.out.mono hw0.out.size)) | exact pw_below_drewN (hw0.out.trans (hw1.out.mono hw0.out.size)) _ | exact below_drew1 (hw0.out.trans (hw1.out.mono hw0.out.size)))).mono ?_; clear ht2; rintro e w2 ⟨rfl, hb2⟩; have hw2 := Aside0.mk (below_then (B := W.heap.size) (w := W) (by first | exact hw1.out | exact pw_below_drewN hw1.out _ | exact below_drew1 hw1.out) (by exact hw1.out.size) hb2); clear hb2 kx1 kr2; have kr2 := blk_cell (blk_below hr.out hw2.out) 2) | (go_at_call 45; refine (head_Set.calls k E2 g2 sf ⟨#[67, 111, 110, 116, 101, 110, 116, 45, 82, 97, 110, 103, 101]⟩ ((((((⟨#[98, 121, 116, 101, 115, 32]⟩ : ByteArray) ++ t1) ++ (⟨#[45]⟩ : ByteArray)) ++ t2) ++ (⟨#[47]⟩ : ByteArray)) ++ sz) nf _ (Kd.C_below hC.out (by first | exact hw2.out | exact pw_below_drewN hw2.out _ | exact below_drew1 hw2.out)) hg2 hset.out).mono ?_; rintro e w3 ⟨vs, rfl, hR3, hb3⟩; obtain ⟨D, dc, rfl, hdc, _⟩ := Kd.R_reads hR3; have hw3 := Aside0.mk (below_then (B := W.heap.size) (w := W) (by first | exact hw2.out | exact pw_below_drewN hw2.out _ | exact below_drew1 hw2.out) (by exact hw2.out.size) hb3); clear hb3; have hz := blk_below hr.out hw3.out; have kz := blk_cell hz 2; have fz := blk_frozen hz 2; clear hz; replace hR3 := Aside0.mk (Kd.R_lower hR3 (by exact hw2.out.size))))
  all_goals exact hN.out _ D dc _ _ _ _ _ _ _ _ _ _ _ _ _ _ _ _ _ _ _ _ _ _ _ _ _ _ _ _ _ _ _ _ _ _ _ _ _ _ _ _ _ _ _ _ _ _ _ _ _ _ _ _ _ _ _ _ _ _ _ _ _ _ _ _ _ _ _ _ _ _ _ _ _ _ _ _ _ _ _ _ _ _ _ _ _ _ _ _ _ _ _ hw3.out hR3.out
end Go.Proofs.YtacgmcmnnogbbaaGreatDoor.PX

namespace Go.Proofs.YtacgmcmnnogbbaaGreatDoor.PX
open Go.RowKit Go.Proofs Go.Proofs.YtacgmcmnnogbbaaGreatDoorW.PrintWords Go.Proofs.YtacgmcmnnogbbaaGreatDoorW.PrintLast Go.Proofs.YtacgmcmnnogbbaaGreatDoorW.PrintMore
set_option linter.unusedVariables false
set_option linter.unusedSimpArgs false
/-- What Apply hands back. -/
def ApplyPost (w : World) (o0 : Int) (o1 : ByteArray) (of : List S50) (ob : List Int) (e : Ending) (W : World) : Prop :=
  ∃ v2 v3 : Value, e = .returned (.agg #[.int .i64 o0, .string o1, v2, v3]) ∧ Kd.R k50 50 W w.heap.size (fun _ => True) v2 of ∧ Kd.Q (Kd.int .u8) 5 W w.heap.size (fun _ => True) v3 ob ∧ Below w.heap.size w W
theorem R_one50 (W : World) (n v : ByteArray) (base : Nat) (hb : base ≤ W.heap.size) : Kd.R k50 50 (W.alloc (Obj.cells #[.string n, .string v] 50)) base (fun _ => True) (.slice (some ⟨W.heap.size, 0, none⟩) 1 1) [⟨n, v⟩] :=
  ⟨fun _ _ => trivial, [.string n, .string v], World.ownsRow_lit (base := base) (e := 50) (size := 2) W #[.string n, .string v] 1 hb (by decide) rfl, Reps.c2 (k50_mkM _ _ _ (⟨n, v⟩ : S50)) (Reps.none _ _)⟩
/-- The end: r is copied to the result. -/
theorem PA.told {H : Nat} {w : World} {q0 q1 : ByteArray} {A2 : Option Addr} {c2 : Nat} {l2 : List S50} {A3 : Option Addr} {n3 c3 : Nat} {s0 : Int} {s1 : ByteArray} {sf : List S50} {sb : List Int} {E2 : Option Addr} {g2 : Nat} {E3 : Option Addr} {g3 : Nat} {W : World}
    (h : PA H w q0 q1 A2 c2 l2 A3 n3 c3 s0 s1 sf sb E2 g2 E3 g3 W) : ApplyPost w s0 s1 sf sb (.returned (.agg #[.int .i64 s0, .string s1, .slice E2 sf.length g2, .slice E3 sb.length g3])) (put4 W (H + 1 + 1) (.int .i64 s0) (.string s1) (.slice E2 sf.length g2) (.slice E3 sb.length g3)) := by
  have gr := put4_grown W (H + 1 + 1) (.int .i64 s0) (.string s1) (.slice E2 sf.length g2) (.slice E3 sb.length g3)
  have r2 := Kd.R_grown1 h.R2 rfl gr (out_of_own h.R2 (by omega))
  have r3 := Kd.R_grown1 h.R3 rfl gr (out_of_own h.R3 (by omega))
  have hH := h.hH
  exact ⟨_, _, rfl, Kd.R_lower r2 (by omega), Kd.Q_of_R (Kd.R_lower r3 (by omega)), h.hH ▸ h.below.trans (put4_below _ _ _ _ (by omega))⟩
set_option maxHeartbeats 4000000 in
set_option maxRecDepth 100000 in
/-- Region 6: Parse has told an error: r as_ it is. -/
theorem apply_6err (H : Nat) (w : World) (q0 q1 : ByteArray) (A2 : Option Addr) (c2 : Nat) (l2 : List S50) (A3 : Option Addr) (n3 c3 : Nat) (s0 : Int) (s1 : ByteArray) (sf : List S50) (sb : List Int) (E2 : Option Addr) (g2 : Nat) (E3 : Option Addr) (g3 : Nat) (W : World) (pa : Aside0 (PA H w q0 q1 A2 c2 l2 A3 n3 c3 s0 s1 sf sb E2 g2 E3 g3 W)) (e : Int) (he : e ≠ 0) (L : Option Addr) (ln lc : Nat) (u0 u1 u5 u8 u9 u10 u11 u12 u13 u14 u15 u16 u17 u18 u19 u20 u21 u22 u23 u24 u25 u26 u27 u28 u29 u30 u31 u32 u33 u34 u35 u36 u37 u38 u39 u40 u41 u42 u43 u44 u45 u46 u47 u48 u49 u50 u51 u52 u53 u54 u55 u56 u57 u58 u59 u60 u61 u62 u63 u64 u65 u66 u67 u68 u69 u70 u71 u72 u73 u74 u75 u76 u77 u78 u79 u80 u81 u82 u83 u84 u85 u86 u87 u88 u89 u90 u91 u92 u93 u94 u95 u96 : Value) :
    apply_p6.wp Tryz.prog (bodyPost Tryz.prog Tryz.f17 (ApplyPost w s0 s1 sf sb)) { tmps := #[u0, u1, .pointer (some ⟨H, 0, none⟩), .pointer (some ⟨H + 1, 0, none⟩), .pointer (some ⟨H + 1 + 1, 0, none⟩), u5, .slice L ln lc, .int .i64 e, u8, u9, u10, u11, u12, u13, u14, u15, u16, u17, u18, u19, u20, u21, u22, u23, u24, u25, u26, u27, u28, u29, u30, u31, u32, u33, u34, u35, u36, u37, u38, u39, u40, u41, u42, u43, u44, u45, u46, u47, u48, u49, u50, u51, u52, u53, u54, u55, u56, u57, u58, u59, u60, u61, u62, u63, u64, u65, u66, u67, u68, u69, u70, u71, u72, u73, u74, u75, u76, u77, u78, u79, u80, u81, u82, u83, u84, u85, u86, u87, u88, u89, u90, u91, u92, u93, u94, u95, u96], defers := [] } W := by
  obtain ⟨Q, hQ⟩ : ∃ Q, Q = bodyPost Tryz.prog Tryz.f17 (ApplyPost w s0 s1 sf sb) := ⟨_, rfl⟩
  rw [← hQ]
  simp only [apply_p6, Tryz.f17]
  replace hQ := Aside0.mk hQ
  have hu37 := Tryz.underlying37
  have hu35 := Tryz.underlying35
  have hu50 := Tryz.underlying50
  have ce : (e == 0) = false := by simp [he]
  have kr0 := blk_cell pa.out.r 0
  have kr1 := blk_cell pa.out.r 1
  have kr2 := blk_cell pa.out.r 2
  have kr3 := blk_cell pa.out.r 3
  obtain ⟨⟨z0, f0⟩, ⟨z1, f1⟩, ⟨z2, f2⟩, ⟨z3, f3⟩⟩ := put4_way (.int .i64 s0) (.string s1) (.slice E2 sf.length g2) pa.out.z
  go_wp2
  rw [hQ.out]
  refine bodyPost_ret (results_cell_row rfl _ _ (H + 1 + 1) 37 #[.int .i64 s0, .string s1, .slice E2 sf.length g2, .slice E3 sb.length g3] (0, 0) _ rfl (put4_box _ _ _ _ pa.out.z) Tryz.underlying37 rfl (by kernel_rfl)) rfl ?_
  exact pa.out.told
set_option maxHeartbeats 4000000 in
set_option maxRecDepth 100000 in
/-- Region 6: more than one span: r as_ it is. -/
theorem apply_6many (H : Nat) (w : World) (q0 q1 : ByteArray) (A2 : Option Addr) (c2 : Nat) (l2 : List S50) (A3 : Option Addr) (n3 c3 : Nat) (s0 : Int) (s1 : ByteArray) (sf : List S50) (sb : List Int) (E2 : Option Addr) (g2 : Nat) (E3 : Option Addr) (g3 : Nat) (W : World) (pa : Aside0 (PA H w q0 q1 A2 c2 l2 A3 n3 c3 s0 s1 sf sb E2 g2 E3 g3 W)) (k : Nat) (ll j : List S56) (sz : ByteArray) (L : Option Addr) (lc : Nat) (hl : Aside0 (Kd.C k56 W L ll.length ll)) (hlc : ll.length ≤ lc) (hsz : Aside0 (ItoaAt w (sb.length : Int) sz)) (hj : Aside0 (part_Join.f k ll = some j))
    (j0 : j.length ≠ 0) (j1 : j.length ≠ 1) (u0 u1 u5 u8 u9 u10 u11 u12 u13 u14 u15 u16 u17 u18 u19 u20 u21 u22 u23 u24 u25 u26 u27 u28 u29 u30 u31 u32 u33 u34 u35 u36 u37 u38 u39 u40 u41 u42 u43 u44 u45 u46 u47 u48 u49 u50 u51 u52 u53 u54 u55 u56 u57 u58 u59 u60 u61 u62 u63 u64 u65 u66 u67 u68 u69 u70 u71 u72 u73 u74 u75 u76 u77 u78 u79 u80 u81 u82 u83 u84 u85 u86 u87 u88 u89 u90 u91 u92 u93 u94 u95 u96 : Value) :
    apply_p6.wp Tryz.prog (bodyPost Tryz.prog Tryz.f17 (ApplyPost w s0 s1 sf sb)) { tmps := #[u0, u1, .pointer (some ⟨H, 0, none⟩), .pointer (some ⟨H + 1, 0, none⟩), .pointer (some ⟨H + 1 + 1, 0, none⟩), u5, .slice L ll.length lc, .int .i64 0, u8, u9, u10, u11, u12, u13, u14, u15, u16, u17, u18, u19, u20, u21, u22, u23, u24, u25, u26, u27, u28, u29, u30, u31, u32, u33, u34, u35, u36, u37, u38, u39, u40, u41, u42, u43, u44, u45, u46, u47, u48, u49, u50, u51, u52, u53, u54, u55, u56, u57, u58, u59, u60, u61, u62, u63, u64, u65, u66, u67, u68, u69, u70, u71, u72, u73, u74, u75, u76, u77, u78, u79, u80, u81, u82, u83, u84, u85, u86, u87, u88, u89, u90, u91, u92, u93, u94, u95, u96], defers := [] } W := by
  obtain ⟨Q, hQ⟩ : ∃ Q, Q = bodyPost Tryz.prog Tryz.f17 (ApplyPost w s0 s1 sf sb) := ⟨_, rfl⟩
  rw [← hQ]
  simp only [apply_p6, Tryz.f17]
  replace hQ := Aside0.mk hQ
  have hu37 := Tryz.underlying37
  have hu35 := Tryz.underlying35
  have hu50 := Tryz.underlying50
  have kr3 := blk_cell pa.out.r 3
  have cj0 : ((j.length : Int) == 0) = false := beq_eq_false_iff_ne.2 (by omega)
  have cj1 : ((j.length : Int) == 1) = false := beq_eq_false_iff_ne.2 (by omega)
  have cj0' : ¬ ((j.length : Int) = 0) := by omega
  have cj1' : ¬ ((j.length : Int) = 1) := by omega
  go_wp2_with (first | (go_at_call 44; refine (hsz.out _ (by first | exact (pa.out.hH ▸ pa.out.below) | exact pw_below_drewN (pa.out.hH ▸ pa.out.below) _ | exact below_drew1 (pa.out.hH ▸ pa.out.below))).mono ?_; rintro e W1 ⟨rfl, m1⟩; replace m1 := Aside0.mk (below_then (B := W.heap.size) (w := W) (by first | exact Below.refl _ _ | exact pw_below_drewN (Below.refl _ _) _ | exact below_drew1 (Below.refl _ _)) (by exact Nat.le_refl _) m1)) | (go_at_call 12; refine (part_Join.calls k L lc ll j _ (Kd.C_below hl.out (by first | exact m1.out | exact pw_below_drewN m1.out _ | exact below_drew1 m1.out)) hlc hj.out).mono ?_; rintro e W2 ⟨vj, rfl, hR, hb2⟩; obtain ⟨J, jc, rfl, hjc, hJ⟩ := Kd.R_reads hR; have pa2 := Aside0.mk (pa.out.lies (below_then (B := W.heap.size) (w := W) (by first | exact m1.out | exact pw_below_drewN m1.out _ | exact below_drew1 m1.out) (by exact m1.out.size) hb2)); clear hR hb2; replace hJ := Aside0.mk hJ; have kr0 := blk_cell pa2.out.r 0; have kr1 := blk_cell pa2.out.r 1; have kr2 := blk_cell pa2.out.r 2; have kr3 := blk_cell pa2.out.r 3; obtain ⟨⟨z0, f0⟩, ⟨z1, f1⟩, ⟨z2, f2⟩, ⟨z3, f3⟩⟩ := put4_way (.int .i64 s0) (.string s1) (.slice E2 sf.length g2) pa2.out.z))
  rw [hQ.out]
  refine bodyPost_ret (results_cell_row rfl _ _ (H + 1 + 1) 37 #[.int .i64 s0, .string s1, .slice E2 sf.length g2, .slice E3 sb.length g3] (0, 0) _ rfl (put4_box _ _ _ _ pa2.out.z) Tryz.underlying37 rfl (by kernel_rfl)) rfl ?_
  exact pa2.out.told
set_option maxHeartbeats 4000000 in
set_option maxRecDepth 100000 in
/-- Region 6: no span: 416. -/
theorem apply_6none (H : Nat) (w : World) (q0 q1 : ByteArray) (A2 : Option Addr) (c2 : Nat) (l2 : List S50) (A3 : Option Addr) (n3 c3 : Nat) (s0 : Int) (s1 : ByteArray) (sf : List S50) (sb : List Int) (E2 : Option Addr) (g2 : Nat) (E3 : Option Addr) (g3 : Nat) (W : World) (pa : Aside0 (PA H w q0 q1 A2 c2 l2 A3 n3 c3 s0 s1 sf sb E2 g2 E3 g3 W)) (k : Nat) (ll : List S56) (sz : ByteArray) (L : Option Addr) (lc : Nat) (hl : Aside0 (Kd.C k56 W L ll.length ll)) (hlc : ll.length ≤ lc) (hsz : Aside0 (ItoaAt w (sb.length : Int) sz)) (hj : Aside0 (part_Join.f k ll = some [])) (hszl : sz.size ≤ 1000)
    (u0 u1 u5 u8 u9 u10 u11 u12 u13 u14 u15 u16 u17 u18 u19 u20 u21 u22 u23 u24 u25 u26 u27 u28 u29 u30 u31 u32 u33 u34 u35 u36 u37 u38 u39 u40 u41 u42 u43 u44 u45 u46 u47 u48 u49 u50 u51 u52 u53 u54 u55 u56 u57 u58 u59 u60 u61 u62 u63 u64 u65 u66 u67 u68 u69 u70 u71 u72 u73 u74 u75 u76 u77 u78 u79 u80 u81 u82 u83 u84 u85 u86 u87 u88 u89 u90 u91 u92 u93 u94 u95 u96 : Value) :
    apply_p6.wp Tryz.prog (bodyPost Tryz.prog Tryz.f17 (ApplyPost w 416 ⟨#[82, 97, 110, 103, 101, 32, 78, 111, 116, 32, 83, 97, 116, 105, 115, 102, 105, 97, 98, 108, 101]⟩ [⟨⟨#[67, 111, 110, 116, 101, 110, 116, 45, 82, 97, 110, 103, 101]⟩, (⟨#[98, 121, 116, 101, 115, 32, 42, 47]⟩ : ByteArray) ++ sz⟩] [])) { tmps := #[u0, u1, .pointer (some ⟨H, 0, none⟩), .pointer (some ⟨H + 1, 0, none⟩), .pointer (some ⟨H + 1 + 1, 0, none⟩), u5, .slice L ll.length lc, .int .i64 0, u8, u9, u10, u11, u12, u13, u14, u15, u16, u17, u18, u19, u20, u21, u22, u23, u24, u25, u26, u27, u28, u29, u30, u31, u32, u33, u34, u35, u36, u37, u38, u39, u40, u41, u42, u43, u44, u45, u46, u47, u48, u49, u50, u51, u52, u53, u54, u55, u56, u57, u58, u59, u60, u61, u62, u63, u64, u65, u66, u67, u68, u69, u70, u71, u72, u73, u74, u75, u76, u77, u78, u79, u80, u81, u82, u83, u84, u85, u86, u87, u88, u89, u90, u91, u92, u93, u94, u95, u96], defers := [] } W := by
  obtain ⟨j, hjj⟩ : ∃ j : List S56, j = [] := ⟨_, rfl⟩
  rw [← hjj] at hj
  obtain ⟨Q, hQ⟩ : ∃ Q, Q = bodyPost Tryz.prog Tryz.f17 (ApplyPost w 416 ⟨#[82, 97, 110, 103, 101, 32, 78, 111, 116, 32, 83, 97, 116, 105, 115, 102, 105, 97, 98, 108, 101]⟩ [⟨⟨#[67, 111, 110, 116, 101, 110, 116, 45, 82, 97, 110, 103, 101]⟩, (⟨#[98, 121, 116, 101, 115, 32, 42, 47]⟩ : ByteArray) ++ sz⟩] []) := ⟨_, rfl⟩
  rw [← hQ]
  simp only [apply_p6, Tryz.f17]
  replace hQ := Aside0.mk hQ
  have hu37 := Tryz.underlying37
  have hu35 := Tryz.underlying35
  have hu50 := Tryz.underlying50
  have kr3 := blk_cell pa.out.r 3
  have cj0 : (j.length : Int) = 0 := by rw [hjj]; rfl
  have csz : ¬ 9223372036854775807 < 8 + sz.size := by omega
  clear hjj
  go_wp2_with (first | (go_at_call 44; refine (hsz.out _ (by first | exact (pa.out.hH ▸ pa.out.below) | exact pw_below_drewN (pa.out.hH ▸ pa.out.below) _ | exact below_drew1 (pa.out.hH ▸ pa.out.below))).mono ?_; rintro e W1 ⟨rfl, m1⟩; replace m1 := Aside0.mk (below_then (B := W.heap.size) (w := W) (by first | exact Below.refl _ _ | exact pw_below_drewN (Below.refl _ _) _ | exact below_drew1 (Below.refl _ _)) (by exact Nat.le_refl _) m1)) | (go_at_call 12; refine (part_Join.calls k L lc ll j _ (Kd.C_below hl.out (by first | exact m1.out | exact pw_below_drewN m1.out _ | exact below_drew1 m1.out)) hlc hj.out).mono ?_; rintro e W2 ⟨vj, rfl, hR, hb2⟩; obtain ⟨J, jc, rfl, hjc, hJ⟩ := Kd.R_reads hR; have pa2 := Aside0.mk (pa.out.lies (below_then (B := W.heap.size) (w := W) (by first | exact m1.out | exact pw_below_drewN m1.out _ | exact below_drew1 m1.out) (by exact m1.out.size) hb2)); clear hR hb2; replace hJ := Aside0.mk hJ; have zz := blk_alloc pa2.out.z (Obj.cells #[Value.string ⟨#[67, 111, 110, 116, 101, 110, 116, 45, 82, 97, 110, 103, 101]⟩, Value.string ((⟨#[98, 121, 116, 101, 115, 32, 42, 47]⟩ : ByteArray) ++ sz)] 50); obtain ⟨⟨z0, f0⟩, ⟨z1, f1⟩, ⟨z2, f2⟩, ⟨z3, f3⟩⟩ := put4_way (.int .i64 416) (.string ⟨#[82, 97, 110, 103, 101, 32, 78, 111, 116, 32, 83, 97, 116, 105, 115, 102, 105, 97, 98, 108, 101]⟩) (.slice (some ⟨W2.heap.size, 0, none⟩) 1 1) zz))
  try simp only [Exit.inBlock, Exit.then]
  rw [hQ.out]
  refine bodyPost_ret (results_cell_row rfl _ _ (H + 1 + 1) 37 #[.int .i64 416, .string ⟨#[82, 97, 110, 103, 101, 32, 78, 111, 116, 32, 83, 97, 116, 105, 115, 102, 105, 97, 98, 108, 101]⟩, .slice (some ⟨W2.heap.size, 0, none⟩) 1 1, .slice none 0 0] (0, 0) _ rfl (put4_box _ _ _ _ zz) Tryz.underlying37 rfl (by kernel_rfl)) rfl ?_
  have hlt := blk_lt pa2.out.z
  have hH := pa2.out.hH
  have RL := R_one50 W2 ⟨#[67, 111, 110, 116, 101, 110, 116, 45, 82, 97, 110, 103, 101]⟩ ((⟨#[98, 121, 116, 101, 115, 32, 42, 47]⟩ : ByteArray) ++ sz) (H + 3) (by omega)
  have gr := put4_grown (W2.alloc (Obj.cells #[Value.string ⟨#[67, 111, 110, 116, 101, 110, 116, 45, 82, 97, 110, 103, 101]⟩, Value.string ((⟨#[98, 121, 116, 101, 115, 32, 42, 47]⟩ : ByteArray) ++ sz)] 50)) (H + 1 + 1) (.int .i64 416) (.string ⟨#[82, 97, 110, 103, 101, 32, 78, 111, 116, 32, 83, 97, 116, 105, 115, 102, 105, 97, 98, 108, 101]⟩) (.slice (some ⟨W2.heap.size, 0, none⟩) 1 1) (.slice none 0 0)
  exact ⟨_, _, rfl, Kd.R_lower (Kd.R_grown1 RL rfl gr (out_of_own RL (by omega))) (by omega), Kd.Q_nil _ _ _ _ _, pa2.out.hH ▸ (pa2.out.below.alloc (by have := pa2.out.below.size; omega) _).trans (put4_below _ _ _ _ (by omega))⟩
end Go.Proofs.YtacgmcmnnogbbaaGreatDoor.PX

namespace Go.Proofs.YtacgmcmnnogbbaaGreatDoor.PX
open Go.RowKit Go.Proofs Go.Proofs.YtacgmcmnnogbbaaGreatDoorW.PrintWords Go.Proofs.YtacgmcmnnogbbaaGreatDoorW.PrintLast Go.Proofs.YtacgmcmnnogbbaaGreatDoorW.PrintMore
set_option linter.unusedVariables false
set_option linter.unusedSimpArgs false
def Qm (N : Act → World → Prop) : Exit → Act → World → Prop
  | .normal, a, w => N a w
  | _, _, _ => False
noncomputable def apply_r5 : Code := match Tryz.f17.body with | some (.seq _ (.seq _ (.seq _ (.seq _ (.seq r _))))) => r | _ => .skip
theorem apply_p5_eq : apply_p5 = .seq apply_r5 apply_p6 := rfl
theorem C_str1 {W : World} {A : Option Addr} {v : ByteArray} (h : Kd.C Kd.string W A 1 [v]) : ∃ ad, A = some ad ∧ W.cell? ad = some (.string v) := by
  obtain ⟨ad, hA, hc⟩ := h.2.2 (by decide)
  obtain ⟨c, hl, hR, hcell⟩ := hc 0 v rfl
  obtain rfl : c = [.string v] := by first | exact hR | exact hR.symm | simpa [Kd.string] using hR
  refine ⟨ad, hA, ?_⟩
  have := hcell 0 _ rfl
  simpa [Addr.add] using this
set_option maxHeartbeats 4000000 in
set_option maxRecDepth 100000 in
theorem apply_5 (H : Nat) (w : World) (q0 q1 : ByteArray) (A2 : Option Addr) (c2 : Nat) (l2 : List S50) (A3 : Option Addr) (n3 c3 : Nat) (s0 : Int) (s1 : ByteArray) (sf : List S50) (sb : List Int) (E2 : Option Addr) (g2 : Nat) (E3 : Option Addr) (g3 : Nat) (W : World) (pa : Aside0 (PA H w q0 q1 A2 c2 l2 A3 n3 c3 s0 s1 sf sb E2 g2 E3 g3 W)) (k : Nat) (v0 : ByteArray) (ad : Addr) (ac : Nat) (hac : 1 ≤ ac) (hA : W.cell? ad = some (.string v0)) (ll : List S56) (e : Int) (hp : Aside0 (part_Parse.f k v0 (sb.length : Int) = some (ll, e))) (N : Act → World → Prop)
    (hN : Aside0 (∀ (W' : World) (L : Option Addr) (lc : Nat) (u0 u1 u5 u8 u9 u10 u11 u12 u13 u14 u15 u16 u17 u18 u19 u20 u21 u22 u23 u24 u25 u26 u27 u28 u29 u30 u31 u32 u33 u34 u35 u36 u37 u38 u39 u40 u41 u42 u43 u44 u45 u46 u47 u48 u49 u50 u51 u52 u53 u54 u55 u56 u57 u58 u59 u60 u61 u62 u63 u64 u65 u66 u67 u68 u69 u70 u71 u72 u73 u74 u75 u76 u77 u78 u79 u80 u81 u82 u83 u84 u85 u86 u87 u88 u89 u90 u91 u92 u93 u94 u95 u96 : Value), Below W.heap.size W W' → Kd.C k56 W' L ll.length ll → ll.length ≤ lc → N { tmps := #[u0, u1, .pointer (some ⟨H, 0, none⟩), .pointer (some ⟨H + 1, 0, none⟩), .pointer (some ⟨H + 1 + 1, 0, none⟩), u5, .slice L ll.length lc, .int .i64 e, u8, u9, u10, u11, u12, u13, u14, u15, u16, u17, u18, u19, u20, u21, u22, u23, u24, u25, u26, u27, u28, u29, u30, u31, u32, u33, u34, u35, u36, u37, u38, u39, u40, u41, u42, u43, u44, u45, u46, u47, u48, u49, u50, u51, u52, u53, u54, u55, u56, u57, u58, u59, u60, u61, u62, u63, u64, u65, u66, u67, u68, u69, u70, u71, u72, u73, u74, u75, u76, u77, u78, u79, u80, u81, u82, u83, u84, u85, u86, u87, u88, u89, u90, u91, u92, u93, u94, u95, u96], defers := [] } W')) (u0 u1 u6 u7 u8 u9 u10 u11 u12 u13 u14 u15 u16 u17 u18 u19 u20 u21 u22 u23 u24 u25 u26 u27 u28 u29 u30 u31 u32 u33 u34 u35 u36 u37 u38 u39 u40 u41 u42 u43 u44 u45 u46 u47 u48 u49 u50 u51 u52 u53 u54 u55 u56 u57 u58 u59 u60 u61 u62 u63 u64 u65 u66 u67 u68 u69 u70 u71 u72 u73 u74 u75 u76 u77 u78 u79 u80 u81 u82 u83 u84 u85 u86 u87 u88 u89 u90 u91 u92 u93 u94 u95 u96 : Value) :
    apply_r5.wp Tryz.prog (Qm N) { tmps := #[u0, u1, .pointer (some ⟨H, 0, none⟩), .pointer (some ⟨H + 1, 0, none⟩), .pointer (some ⟨H + 1 + 1, 0, none⟩), .slice (some ad) 1 ac, u6, u7, u8, u9, u10, u11, u12, u13, u14, u15, u16, u17, u18, u19, u20, u21, u22, u23, u24, u25, u26, u27, u28, u29, u30, u31, u32, u33, u34, u35, u36, u37, u38, u39, u40, u41, u42, u43, u44, u45, u46, u47, u48, u49, u50, u51, u52, u53, u54, u55, u56, u57, u58, u59, u60, u61, u62, u63, u64, u65, u66, u67, u68, u69, u70, u71, u72, u73, u74, u75, u76, u77, u78, u79, u80, u81, u82, u83, u84, u85, u86, u87, u88, u89, u90, u91, u92, u93, u94, u95, u96], defers := [] } W := by
  simp only [apply_r5, Tryz.f17]
  have kr3 := blk_cell pa.out.r 3
  go_wp2
  go_region_with (go_at_call 9; refine (part_Parse.calls k v0 (sb.length : Int) ll e _ hp.out).mono ?_; rintro e_ w3 ⟨vs, rfl, hR3, hb3⟩; obtain ⟨D, dc, rfl, hdc, hD⟩ := Kd.R_reads hR3; clear hR3; replace hb3 := Aside0.mk hb3; replace hD := Aside0.mk hD)
  all_goals exact hN.out _ _ _ _ _ _ _ _ _ _ _ _ _ _ _ _ _ _ _ _ _ _ _ _ _ _ _ _ _ _ _ _ _ _ _ _ _ _ _ _ _ _ _ _ _ _ _ _ _ _ _ _ _ _ _ _ _ _ _ _ _ _ _ _ _ _ _ _ _ _ _ _ _ _ _ _ _ _ _ _ _ _ _ _ _ _ _ _ _ _ _ _ _ _ _ (Below.trans (Drawn0.below ⟨_, rfl⟩) hb3.out) hD.out hdc
noncomputable def apply_c3 : Code := match Tryz.f17.body with | some (.seq _ (.seq _ (.seq _ (.seq r _)))) => r | _ => .skip
theorem apply_p3_eq : apply_p3 = .seq apply_c3 apply_p5 := rfl
set_option maxHeartbeats 4000000 in
set_option maxRecDepth 100000 in
theorem apply_3q (H : Nat) (w : World) (q0 q1 : ByteArray) (A2 : Option Addr) (c2 : Nat) (l2 : List S50) (A3 : Option Addr) (n3 c3 : Nat) (s0 : Int) (s1 : ByteArray) (sf : List S50) (sb : List Int) (E2 : Option Addr) (g2 : Nat) (E3 : Option Addr) (g3 : Nat) (W : World) (pa : Aside0 (PA H w q0 q1 A2 c2 l2 A3 n3 c3 s0 s1 sf sb E2 g2 E3 g3 W)) (AA : Option Addr) (an ac : Nat) (hm : q0 ≠ ⟨#[71, 69, 84]⟩) (u0 u1 u6 u7 u8 u9 u10 u11 u12 u13 u14 u15 u16 u17 u18 u19 u20 u21 u22 u23 u24 u25 u26 u27 u28 u29 u30 u31 u32 u33 u34 u35 u36 u37 u38 u39 u40 u41 u42 u43 u44 u45 u46 u47 u48 u49 u50 u51 u52 u53 u54 u55 u56 u57 u58 u59 u60 u61 u62 u63 u64 u65 u66 u67 u68 u69 u70 u71 u72 u73 u74 u75 u76 u77 u78 u79 u80 u81 u82 u83 u84 u85 u86 u87 u88 u89 u90 u91 u92 u93 u94 u95 u96 : Value) :
    apply_p3.wp Tryz.prog (bodyPost Tryz.prog Tryz.f17 (ApplyPost w s0 s1 sf sb)) { tmps := #[u0, u1, .pointer (some ⟨H, 0, none⟩), .pointer (some ⟨H + 1, 0, none⟩), .pointer (some ⟨H + 1 + 1, 0, none⟩), .slice AA an ac, u6, u7, u8, u9, u10, u11, u12, u13, u14, u15, u16, u17, u18, u19, u20, u21, u22, u23, u24, u25, u26, u27, u28, u29, u30, u31, u32, u33, u34, u35, u36, u37, u38, u39, u40, u41, u42, u43, u44, u45, u46, u47, u48, u49, u50, u51, u52, u53, u54, u55, u56, u57, u58, u59, u60, u61, u62, u63, u64, u65, u66, u67, u68, u69, u70, u71, u72, u73, u74, u75, u76, u77, u78, u79, u80, u81, u82, u83, u84, u85, u86, u87, u88, u89, u90, u91, u92, u93, u94, u95, u96], defers := [] } W := by
  obtain ⟨Q, hQ⟩ : ∃ Q, Q = bodyPost Tryz.prog Tryz.f17 (ApplyPost w s0 s1 sf sb) := ⟨_, rfl⟩
  rw [← hQ]
  simp only [apply_p3, Tryz.f17]
  replace hQ := Aside0.mk hQ
  have hu37 := Tryz.underlying37
  have hu35 := Tryz.underlying35
  have hu50 := Tryz.underlying50
  have cq1 : ¬ q0.toList = [71, 69, 84] := fun h => hm (ba_eq (by rw [← ByteArray.toList_eq, h]))
  have kq0 := blk_cell pa.out.q 0
  have kr0 := blk_cell pa.out.r 0
  have kr1 := blk_cell pa.out.r 1
  have kr2 := blk_cell pa.out.r 2
  have kr3 := blk_cell pa.out.r 3
  obtain ⟨⟨z0, f0⟩, ⟨z1, f1⟩, ⟨z2, f2⟩, ⟨z3, f3⟩⟩ := put4_way (.int .i64 s0) (.string s1) (.slice E2 sf.length g2) pa.out.z
  go_wp2
  rw [hQ.out]
  refine bodyPost_ret (results_cell_row rfl _ _ (H + 1 + 1) 37 #[.int .i64 s0, .string s1, .slice E2 sf.length g2, .slice E3 sb.length g3] (0, 0) _ rfl (put4_box _ _ _ _ pa.out.z) Tryz.underlying37 rfl (by kernel_rfl)) rfl ?_
  exact pa.out.told
set_option maxHeartbeats 4000000 in
set_option maxRecDepth 100000 in
theorem apply_3s (H : Nat) (w : World) (q0 q1 : ByteArray) (A2 : Option Addr) (c2 : Nat) (l2 : List S50) (A3 : Option Addr) (n3 c3 : Nat) (s0 : Int) (s1 : ByteArray) (sf : List S50) (sb : List Int) (E2 : Option Addr) (g2 : Nat) (E3 : Option Addr) (g3 : Nat) (W : World) (pa : Aside0 (PA H w q0 q1 A2 c2 l2 A3 n3 c3 s0 s1 sf sb E2 g2 E3 g3 W)) (AA : Option Addr) (an ac : Nat) (hm : q0 = ⟨#[71, 69, 84]⟩) (hs : s0 ≠ 200) (u0 u1 u6 u7 u8 u9 u10 u11 u12 u13 u14 u15 u16 u17 u18 u19 u20 u21 u22 u23 u24 u25 u26 u27 u28 u29 u30 u31 u32 u33 u34 u35 u36 u37 u38 u39 u40 u41 u42 u43 u44 u45 u46 u47 u48 u49 u50 u51 u52 u53 u54 u55 u56 u57 u58 u59 u60 u61 u62 u63 u64 u65 u66 u67 u68 u69 u70 u71 u72 u73 u74 u75 u76 u77 u78 u79 u80 u81 u82 u83 u84 u85 u86 u87 u88 u89 u90 u91 u92 u93 u94 u95 u96 : Value) :
    apply_p3.wp Tryz.prog (bodyPost Tryz.prog Tryz.f17 (ApplyPost w s0 s1 sf sb)) { tmps := #[u0, u1, .pointer (some ⟨H, 0, none⟩), .pointer (some ⟨H + 1, 0, none⟩), .pointer (some ⟨H + 1 + 1, 0, none⟩), .slice AA an ac, u6, u7, u8, u9, u10, u11, u12, u13, u14, u15, u16, u17, u18, u19, u20, u21, u22, u23, u24, u25, u26, u27, u28, u29, u30, u31, u32, u33, u34, u35, u36, u37, u38, u39, u40, u41, u42, u43, u44, u45, u46, u47, u48, u49, u50, u51, u52, u53, u54, u55, u56, u57, u58, u59, u60, u61, u62, u63, u64, u65, u66, u67, u68, u69, u70, u71, u72, u73, u74, u75, u76, u77, u78, u79, u80, u81, u82, u83, u84, u85, u86, u87, u88, u89, u90, u91, u92, u93, u94, u95, u96], defers := [] } W := by
  obtain ⟨Q, hQ⟩ : ∃ Q, Q = bodyPost Tryz.prog Tryz.f17 (ApplyPost w s0 s1 sf sb) := ⟨_, rfl⟩
  rw [← hQ]
  simp only [apply_p3, Tryz.f17]
  replace hQ := Aside0.mk hQ
  have hu37 := Tryz.underlying37
  have hu35 := Tryz.underlying35
  have hu50 := Tryz.underlying50
  subst hm
  have cs : ¬ s0 = 200 := hs
  have cs' : (s0 != 200) = true := bne_iff_ne.2 hs
  have kq0 := blk_cell pa.out.q 0
  have kr0 := blk_cell pa.out.r 0
  have kr1 := blk_cell pa.out.r 1
  have kr2 := blk_cell pa.out.r 2
  have kr3 := blk_cell pa.out.r 3
  obtain ⟨⟨z0, f0⟩, ⟨z1, f1⟩, ⟨z2, f2⟩, ⟨z3, f3⟩⟩ := put4_way (.int .i64 s0) (.string s1) (.slice E2 sf.length g2) pa.out.z
  go_wp2
  rw [hQ.out]
  refine bodyPost_ret (results_cell_row rfl _ _ (H + 1 + 1) 37 #[.int .i64 s0, .string s1, .slice E2 sf.length g2, .slice E3 sb.length g3] (0, 0) _ rfl (put4_box _ _ _ _ pa.out.z) Tryz.underlying37 rfl (by kernel_rfl)) rfl ?_
  exact pa.out.told
set_option maxHeartbeats 4000000 in
set_option maxRecDepth 100000 in
theorem apply_3a (H : Nat) (w : World) (q0 q1 : ByteArray) (A2 : Option Addr) (c2 : Nat) (l2 : List S50) (A3 : Option Addr) (n3 c3 : Nat) (s0 : Int) (s1 : ByteArray) (sf : List S50) (sb : List Int) (E2 : Option Addr) (g2 : Nat) (E3 : Option Addr) (g3 : Nat) (W : World) (pa : Aside0 (PA H w q0 q1 A2 c2 l2 A3 n3 c3 s0 s1 sf sb E2 g2 E3 g3 W)) (AA : Option Addr) (an ac : Nat) (hm : q0 = ⟨#[71, 69, 84]⟩) (hs : s0 = 200) (han : an ≠ 1) (u0 u1 u6 u7 u8 u9 u10 u11 u12 u13 u14 u15 u16 u17 u18 u19 u20 u21 u22 u23 u24 u25 u26 u27 u28 u29 u30 u31 u32 u33 u34 u35 u36 u37 u38 u39 u40 u41 u42 u43 u44 u45 u46 u47 u48 u49 u50 u51 u52 u53 u54 u55 u56 u57 u58 u59 u60 u61 u62 u63 u64 u65 u66 u67 u68 u69 u70 u71 u72 u73 u74 u75 u76 u77 u78 u79 u80 u81 u82 u83 u84 u85 u86 u87 u88 u89 u90 u91 u92 u93 u94 u95 u96 : Value) :
    apply_p3.wp Tryz.prog (bodyPost Tryz.prog Tryz.f17 (ApplyPost w s0 s1 sf sb)) { tmps := #[u0, u1, .pointer (some ⟨H, 0, none⟩), .pointer (some ⟨H + 1, 0, none⟩), .pointer (some ⟨H + 1 + 1, 0, none⟩), .slice AA an ac, u6, u7, u8, u9, u10, u11, u12, u13, u14, u15, u16, u17, u18, u19, u20, u21, u22, u23, u24, u25, u26, u27, u28, u29, u30, u31, u32, u33, u34, u35, u36, u37, u38, u39, u40, u41, u42, u43, u44, u45, u46, u47, u48, u49, u50, u51, u52, u53, u54, u55, u56, u57, u58, u59, u60, u61, u62, u63, u64, u65, u66, u67, u68, u69, u70, u71, u72, u73, u74, u75, u76, u77, u78, u79, u80, u81, u82, u83, u84, u85, u86, u87, u88, u89, u90, u91, u92, u93, u94, u95, u96], defers := [] } W := by
  obtain ⟨Q, hQ⟩ : ∃ Q, Q = bodyPost Tryz.prog Tryz.f17 (ApplyPost w s0 s1 sf sb) := ⟨_, rfl⟩
  rw [← hQ]
  simp only [apply_p3, Tryz.f17]
  replace hQ := Aside0.mk hQ
  have hu37 := Tryz.underlying37
  have hu35 := Tryz.underlying35
  have hu50 := Tryz.underlying50
  subst hm; subst hs
  have ca : ¬ (an : Int) = 1 := by omega
  have ca' : ((an : Int) != 1) = true := bne_iff_ne.2 (by omega)
  have kq0 := blk_cell pa.out.q 0
  have kr0 := blk_cell pa.out.r 0
  have kr1 := blk_cell pa.out.r 1
  have kr2 := blk_cell pa.out.r 2
  have kr3 := blk_cell pa.out.r 3
  obtain ⟨⟨z0, f0⟩, ⟨z1, f1⟩, ⟨z2, f2⟩, ⟨z3, f3⟩⟩ := put4_way (.int .i64 200) (.string s1) (.slice E2 sf.length g2) pa.out.z
  go_wp2
  rw [hQ.out]
  refine bodyPost_ret (results_cell_row rfl _ _ (H + 1 + 1) 37 #[.int .i64 200, .string s1, .slice E2 sf.length g2, .slice E3 sb.length g3] (0, 0) _ rfl (put4_box _ _ _ _ pa.out.z) Tryz.underlying37 rfl (by kernel_rfl)) rfl ?_
  exact pa.out.told
end Go.Proofs.YtacgmcmnnogbbaaGreatDoor.PX

namespace Go.Proofs.YtacgmcmnnogbbaaGreatDoor.PX
open Go.RowKit Go.Proofs Go.Proofs.YtacgmcmnnogbbaaGreatDoorW.PrintWords Go.Proofs.YtacgmcmnnogbbaaGreatDoorW.PrintLast Go.Proofs.YtacgmcmnnogbbaaGreatDoorW.PrintMore
set_option linter.unusedVariables false
set_option linter.unusedSimpArgs false
set_option maxHeartbeats 4000000 in
set_option maxRecDepth 100000 in
theorem apply_3ok (H : Nat) (w : World) (q0 q1 : ByteArray) (A2 : Option Addr) (c2 : Nat) (l2 : List S50) (A3 : Option Addr) (n3 c3 : Nat) (s0 : Int) (s1 : ByteArray) (sf : List S50) (sb : List Int) (E2 : Option Addr) (g2 : Nat) (E3 : Option Addr) (g3 : Nat) (W : World) (pa : Aside0 (PA H w q0 q1 A2 c2 l2 A3 n3 c3 s0 s1 sf sb E2 g2 E3 g3 W)) (k : Nat) (AA : Option Addr) (ac : Nat) (hm : q0 = ⟨#[71, 69, 84]⟩) (hs : s0 = 200) (hc2 : l2.length ≤ c2) (hh : Aside0 (part_Holds.f k l2 200 s1 sf sb = some true)) (N : Act → World → Prop)
    (hN : Aside0 (∀ (W' : World) (u0 u1 u6 u7 u8 u9 u10 u11 u12 u13 u14 u15 u16 u17 u18 u19 u20 u21 u22 u23 u24 u25 u26 u27 u28 u29 u30 u31 u32 u33 u34 u35 u36 u37 u38 u39 u40 u41 u42 u43 u44 u45 u46 u47 u48 u49 u50 u51 u52 u53 u54 u55 u56 u57 u58 u59 u60 u61 u62 u63 u64 u65 u66 u67 u68 u69 u70 u71 u72 u73 u74 u75 u76 u77 u78 u79 u80 u81 u82 u83 u84 u85 u86 u87 u88 u89 u90 u91 u92 u93 u94 u95 u96 : Value), Below W.heap.size W W' → N { tmps := #[u0, u1, .pointer (some ⟨H, 0, none⟩), .pointer (some ⟨H + 1, 0, none⟩), .pointer (some ⟨H + 1 + 1, 0, none⟩), .slice AA 1 ac, u6, u7, u8, u9, u10, u11, u12, u13, u14, u15, u16, u17, u18, u19, u20, u21, u22, u23, u24, u25, u26, u27, u28, u29, u30, u31, u32, u33, u34, u35, u36, u37, u38, u39, u40, u41, u42, u43, u44, u45, u46, u47, u48, u49, u50, u51, u52, u53, u54, u55, u56, u57, u58, u59, u60, u61, u62, u63, u64, u65, u66, u67, u68, u69, u70, u71, u72, u73, u74, u75, u76, u77, u78, u79, u80, u81, u82, u83, u84, u85, u86, u87, u88, u89, u90, u91, u92, u93, u94, u95, u96], defers := [] } W')) (u0 u1 u6 u7 u8 u9 u10 u11 u12 u13 u14 u15 u16 u17 u18 u19 u20 u21 u22 u23 u24 u25 u26 u27 u28 u29 u30 u31 u32 u33 u34 u35 u36 u37 u38 u39 u40 u41 u42 u43 u44 u45 u46 u47 u48 u49 u50 u51 u52 u53 u54 u55 u56 u57 u58 u59 u60 u61 u62 u63 u64 u65 u66 u67 u68 u69 u70 u71 u72 u73 u74 u75 u76 u77 u78 u79 u80 u81 u82 u83 u84 u85 u86 u87 u88 u89 u90 u91 u92 u93 u94 u95 u96 : Value) :
    apply_c3.wp Tryz.prog (Qm N) { tmps := #[u0, u1, .pointer (some ⟨H, 0, none⟩), .pointer (some ⟨H + 1, 0, none⟩), .pointer (some ⟨H + 1 + 1, 0, none⟩), .slice AA 1 ac, u6, u7, u8, u9, u10, u11, u12, u13, u14, u15, u16, u17, u18, u19, u20, u21, u22, u23, u24, u25, u26, u27, u28, u29, u30, u31, u32, u33, u34, u35, u36, u37, u38, u39, u40, u41, u42, u43, u44, u45, u46, u47, u48, u49, u50, u51, u52, u53, u54, u55, u56, u57, u58, u59, u60, u61, u62, u63, u64, u65, u66, u67, u68, u69, u70, u71, u72, u73, u74, u75, u76, u77, u78, u79, u80, u81, u82, u83, u84, u85, u86, u87, u88, u89, u90, u91, u92, u93, u94, u95, u96], defers := [] } W := by
  simp only [apply_c3, Tryz.f17]
  have hu37 := Tryz.underlying37
  have hu35 := Tryz.underlying35
  subst hm; subst hs
  have kq0 := blk_cell pa.out.q 0
  have kq2 := blk_cell pa.out.q 2
  have kr0 := blk_cell pa.out.r 0
  have kr1 := blk_cell pa.out.r 1
  have kr2 := blk_cell pa.out.r 2
  have kr3 := blk_cell pa.out.r 3
  go_wp2_with (go_at_call 22; refine (part_Holds.calls k A2 c2 l2 200 s1 E2 g2 sf E3 g3 sb true _ pa.out.cq hc2 hh.out).mono ?_; rintro e w1 ⟨rfl, hb1⟩; replace hb1 := Aside0.mk hb1)
  exact hN.out _ _ _ _ _ _ _ _ _ _ _ _ _ _ _ _ _ _ _ _ _ _ _ _ _ _ _ _ _ _ _ _ _ _ _ _ _ _ _ _ _ _ _ _ _ _ _ _ _ _ _ _ _ _ _ _ _ _ _ _ _ _ _ _ _ _ _ _ _ _ _ _ _ _ _ _ _ _ _ _ _ _ _ _ _ _ _ _ _ _ _ _ _ _ hb1.out
end Go.Proofs.YtacgmcmnnogbbaaGreatDoor.PX

namespace Go.Proofs.YtacgmcmnnogbbaaGreatDoor.PX
open Go.RowKit Go.Proofs Go.Proofs.YtacgmcmnnogbbaaGreatDoorW.PrintWords Go.Proofs.YtacgmcmnnogbbaaGreatDoorW.PrintLast Go.Proofs.YtacgmcmnnogbbaaGreatDoorW.PrintMore
set_option linter.unusedVariables false
set_option linter.unusedSimpArgs false
noncomputable def apply_r0 : Code := match Tryz.f17.body with | some (.seq r _) => r | _ => .skip
noncomputable def apply_r1 : Code := match Tryz.f17.body with | some (.seq _ (.seq r _)) => r | _ => .skip
noncomputable def apply_r2 : Code := match Tryz.f17.body with | some (.seq _ (.seq _ (.seq r _))) => r | _ => .skip
theorem apply_body : Tryz.f17.body = some (.seq apply_r0 (.seq apply_r1 (.seq apply_r2 apply_p3))) := rfl
set_option maxHeartbeats 4000000 in
set_option maxRecDepth 100000 in
theorem apply_head (k : Nat) (q0 q1 : ByteArray) (A2 : Option Addr) (c2 : Nat) (l2 : List S50) (A3 : Option Addr) (c3 n3 : Nat) (a0 : Int) (a1 : ByteArray) (B2 : Option Addr) (d2 : Nat) (m2 : List S50) (B3 : Option Addr) (d3 : Nat) (m3 : List Int) (w : World)
    (s0 : Int) (s1 : ByteArray) (sf : List S50) (sb : List Int) (asks : List ByteArray) (post : Ending → World → Prop)
    (hc : part_copied.f a0 a1 m2 m3 = some (s0, s1, sf, sb)) (hall : head_All.f k l2 ⟨#[82, 97, 110, 103, 101]⟩ = some asks)
    (hq : Kd.C k50 w A2 l2.length l2) (hq' : l2.length ≤ c2) (hr2 : Kd.C k50 w B2 m2.length m2) (hr2' : m2.length ≤ d2) (hr3 : Kd.C (Kd.int .u8) w B3 m3.length m3) (hr3' : m3.length ≤ d3)
    (h3 : Aside0 (∀ (W : World) (E2 : Option Addr) (g2 : Nat) (E3 : Option Addr) (g3 : Nat) (AA : Option Addr) (ac : Nat) (u0 u1 u6 u7 u8 u9 u10 u11 u12 u13 u14 u15 u16 u17 u18 u19 u20 u21 u22 u23 u24 u25 u26 u27 u28 u29 u30 u31 u32 u33 u34 u35 u36 u37 u38 u39 u40 u41 u42 u43 u44 u45 u46 u47 u48 u49 u50 u51 u52 u53 u54 u55 u56 u57 u58 u59 u60 u61 u62 u63 u64 u65 u66 u67 u68 u69 u70 u71 u72 u73 u74 u75 u76 u77 u78 u79 u80 u81 u82 u83 u84 u85 u86 u87 u88 u89 u90 u91 u92 u93 u94 u95 u96 : Value), PA w.heap.size w q0 q1 A2 c2 l2 A3 n3 c3 s0 s1 sf sb E2 g2 E3 g3 W → Kd.C Kd.string W AA asks.length asks → asks.length ≤ ac →
      apply_p3.wp Tryz.prog (bodyPost Tryz.prog Tryz.f17 post) { tmps := #[u0, u1, .pointer (some ⟨w.heap.size, 0, none⟩), .pointer (some ⟨w.heap.size + 1, 0, none⟩), .pointer (some ⟨w.heap.size + 1 + 1, 0, none⟩), .slice AA asks.length ac, u6, u7, u8, u9, u10, u11, u12, u13, u14, u15, u16, u17, u18, u19, u20, u21, u22, u23, u24, u25, u26, u27, u28, u29, u30, u31, u32, u33, u34, u35, u36, u37, u38, u39, u40, u41, u42, u43, u44, u45, u46, u47, u48, u49, u50, u51, u52, u53, u54, u55, u56, u57, u58, u59, u60, u61, u62, u63, u64, u65, u66, u67, u68, u69, u70, u71, u72, u73, u74, u75, u76, u77, u78, u79, u80, u81, u82, u83, u84, u85, u86, u87, u88, u89, u90, u91, u92, u93, u94, u95, u96], defers := [] } W)) :
    Calls Tryz.prog 17 #[.agg #[.string q0, .string q1, .slice A2 l2.length c2, .slice A3 n3 c3], .agg #[.int .i64 a0, .string a1, .slice B2 m2.length d2, .slice B3 m3.length d3]] w post := by
  obtain ⟨W0, hW0⟩ : ∃ W0, W0 = ((w.alloc (Obj.cells #[.string q0, .string q1, .slice A2 l2.length c2, .slice A3 n3 c3] 35)).alloc (Obj.cells #[.int .i64 a0, .string a1, .slice B2 m2.length d2, .slice B3 m3.length d3] 37)).alloc (Obj.cells #[.int .i64 0, .string ⟨#[]⟩, .slice none 0 0, .slice none 0 0] 37) := ⟨_, rfl⟩
  have hB0 : Below w.heap.size w W0 := by rw [hW0]; exact (((Below.refl _ w).alloc (Nat.le_refl _) _).alloc (by simp) _).alloc (by simp; omega) _
  have hz0 : W0.heap.size = w.heap.size + 3 := by rw [hW0]; simp
  have bq : W0.heap[w.heap.size]? = some (.cells #[.string q0, .string q1, .slice A2 l2.length c2, .slice A3 n3 c3] 35 (0, 0)) := by rw [hW0]; exact blk_alloc (blk_alloc (blk_new w _) _) _
  have br : W0.heap[w.heap.size + 1]? = some (.cells #[.int .i64 a0, .string a1, .slice B2 m2.length d2, .slice B3 m3.length d3] 37 (0, 0)) := by
    rw [hW0]; have := blk_alloc (blk_new (w.alloc (Obj.cells #[.string q0, .string q1, .slice A2 l2.length c2, .slice A3 n3 c3] 35)) (Obj.cells #[.int .i64 a0, .string a1, .slice B2 m2.length d2, .slice B3 m3.length d3] 37)) (Obj.cells #[.int .i64 0, .string ⟨#[]⟩, .slice none 0 0, .slice none 0 0] 37); rwa [World.size_alloc] at this
  have bz : W0.heap[w.heap.size + 1 + 1]? = some (.cells #[.int .i64 0, .string ⟨#[]⟩, .slice none 0 0, .slice none 0 0] 37 (0, 0)) := by
    rw [hW0]; have := blk_new ((w.alloc (Obj.cells #[.string q0, .string q1, .slice A2 l2.length c2, .slice A3 n3 c3] 35)).alloc (Obj.cells #[.int .i64 a0, .string a1, .slice B2 m2.length d2, .slice B3 m3.length d3] 37)) (Obj.cells #[.int .i64 0, .string ⟨#[]⟩, .slice none 0 0, .slice none 0 0] 37); rwa [World.size_alloc, World.size_alloc] at this
  have hC := Aside0.mk (part_copied.calls a0 a1 B2 d2 m2 B3 d3 m3 s0 s1 sf sb W0 (Kd.C_below hr2 hB0) hr2' (Kd.C_below hr3 hB0) hr3' hc)
  have BQ := Aside0.mk bq
  have BR := Aside0.mk br
  have BZ := Aside0.mk bz
  have HB0 := Aside0.mk hB0
  have HZ0 := Aside0.mk hz0
  have HQ_ := Aside0.mk hq
  have W0eq := Aside0.mk hW0
  rw [hW0] at hC
  clear hr2 hr3 hc bq br bz hB0 hz0 hq hW0
  have hu37 := Tryz.underlying37
  have hu35 := Tryz.underlying35
  refine calls_of_wp Tryz.func17 apply_body ?_
  simp only [Tryz.ntmps17, List.size_toArray, List.length_cons, List.length_nil, Nat.reduceAdd, Nat.reduceSub, Array.replicate_succ, Array.replicate_zero, List.push_toArray, List.append_toArray, List.nil_append, List.cons_append]
  obtain ⟨Q, hQ⟩ : ∃ Q, Q = bodyPost Tryz.prog Tryz.f17 post := ⟨_, rfl⟩
  rw [← hQ] at h3 ⊢
  clear hQ
  simp only [apply_r0, apply_r1, apply_r2, Tryz.f17]
  go_wp2_with (first | (go_at_call 42; refine hC.out.mono ?_; rintro e W1 ⟨v2, v3, rfl, hR2, hR3, hb1⟩; rw [← W0eq.out] at hR2 hR3 hb1; obtain ⟨E2, g2, rfl, hg2, hx2⟩ := Kd.R_reads hR2; obtain ⟨E3, g3, rfl, hg3, hx3⟩ := Kd.R_reads hR3; clear hx2 hx3; have bq1 := Aside0.mk (blk_below BQ.out hb1); have br1 := Aside0.mk (blk_below BR.out hb1); have bz1 := Aside0.mk (blk_below BZ.out hb1); obtain ⟨⟨z0, f0⟩, ⟨z1, f1⟩, ⟨z2, f2⟩, ⟨z3, f3⟩⟩ := put4_way (.int .i64 s0) (.string s1) (.slice E2 sf.length g2) br1.out; have kq2 := blk_cell ((put4_far (W := W1) (g := w.heap.size + 1) (.int .i64 s0) (.string s1) (.slice E2 sf.length g2) (.slice E3 sb.length g3) w.heap.size (by omega)).trans bq1.out) 2; unfold put4 at kq2; replace hR2 := Aside0.mk hR2; replace hR3 := Aside0.mk hR3; have hbb := Aside0.mk (HB0.out.trans (hb1.mono (by have := HZ0.out; omega))); clear hb1) | (go_at_call 43; refine (head_All.calls k A2 c2 l2 _ asks _ (Kd.C_below HQ_.out (hbb.out.trans (put4_below (W := W1) (g := w.heap.size + 1) (.int .i64 s0) (.string s1) (.slice E2 sf.length g2) (.slice E3 sb.length g3) (by omega)))) hq' hall).mono ?_; rintro e W2 ⟨va, rfl, hRa, hb2⟩; obtain ⟨AA, ac, rfl, hac, hCa⟩ := Kd.R_reads hRa; clear hRa; replace hCa := Aside0.mk hCa; replace hb2 := Aside0.mk hb2))
  have gr := put4_grown W1 (w.heap.size + 1) (.int .i64 s0) (.string s1) (.slice E2 sf.length g2) (.slice E3 sb.length g3)
  have hz := HZ0.out
  refine h3.out _ E2 g2 E3 g3 AA ac _ _ _ _ _ _ _ _ _ _ _ _ _ _ _ _ _ _ _ _ _ _ _ _ _ _ _ _ _ _ _ _ _ _ _ _ _ _ _ _ _ _ _ _ _ _ _ _ _ _ _ _ _ _ _ _ _ _ _ _ _ _ _ _ _ _ _ _ _ _ _ _ _ _ _ _ _ _ _ _ _ _ _ _ _ _ _ _ _ _ _ _ _ ?_ hCa.out hac
  have p : PA w.heap.size w q0 q1 A2 c2 l2 A3 n3 c3 s0 s1 sf sb E2 g2 E3 g3 (put4 W1 (w.heap.size + 1) (.int .i64 s0) (.string s1) (.slice E2 sf.length g2) (.slice E3 sb.length g3)) :=
    ⟨(put4_far _ _ _ _ _ (by omega)).trans bq1.out, put4_box _ _ _ _ br1.out, (put4_far _ _ _ _ _ (by omega)).trans bz1.out, hz ▸ Kd.R_grown1 hR2.out rfl gr (out_of_own hR2.out (by omega)), hz ▸ Kd.R_grown1 hR3.out rfl gr (out_of_own hR3.out (by omega)),
      Kd.C_below HQ_.out (hbb.out.trans (put4_below _ _ _ _ (by omega))), hbb.out.trans (put4_below _ _ _ _ (by omega)), rfl⟩
  exact p.lies hb2.out
end Go.Proofs.YtacgmcmnnogbbaaGreatDoor.PX

namespace Go.Proofs.YtacgmcmnnogbbaaGreatDoor.PX
open Go.RowKit Go.Proofs Go.Proofs.YtacgmcmnnogbbaaGreatDoorW.PrintWords Go.Proofs.YtacgmcmnnogbbaaGreatDoorW.PrintLast Go.Proofs.YtacgmcmnnogbbaaGreatDoorW.PrintMore
set_option linter.unusedVariables false
set_option linter.unusedSimpArgs false
theorem R_one56 {W : World} {base : Nat} {ok : Nat → Prop} {J : Option Addr} {jc : Nat} {j : List S56} {x : S56} (hx : j = [x]) (h : Kd.R k56 56 W base ok (.slice J j.length jc) j) :
    ∃ g, J = some ⟨g, 0, none⟩ ∧ W.cell? ⟨g, 0, none⟩ = some (.int .i64 x.f0) ∧ W.cell? ⟨g, 1, none⟩ = some (.int .i64 x.f1) := by
  subst hx
  have hC := (Kd.R_reads' h).2.2
  obtain ⟨_, inner, ho, _⟩ := h
  rcases ho.2 with ⟨hv, _⟩ | ⟨g, cap, cur, hv, _⟩
  · exact absurd hv (by simp)
  · injection hv with h1 _ _
    subst h1
    obtain ⟨ad, ha, c0, c1⟩ := at_T56 hC 0 (by decide) (by simp)
    obtain rfl : (⟨g, 0, none⟩ : Addr) = ad := by injection ha
    refine ⟨g, rfl, ?_, ?_⟩
    · simpa [add_plain, rd_T56] using c0
    · simpa [add_plain, rd_T56] using c1
theorem grown1 (W : World) (g i : Nat) (v : Value) : W.grownBy (W.setCell ⟨g, i, none⟩ v) (some g) :=
  have b := (Below.refl 0 W).setCell (p := ⟨g, i, none⟩) (Nat.zero_le _) v
  ⟨b.os, b.tape, b.output, b.size, fun j _ hj => Below.heap_setCell W ⟨g, i, none⟩ v j (fun e => hj (by rw [e]))⟩
theorem grown3 (W : World) (g i1 i2 i3 : Nat) (v1 v2 v3 : Value) : W.grownBy (((W.setCell ⟨g, i1, none⟩ v1).setCell ⟨g, i2, none⟩ v2).setCell ⟨g, i3, none⟩ v3).drew (some g) := by
  have h := grown_row (grown_row (grown1 W g i1 v1) (grown1 _ g i2 v2)) (grown1 _ g i3 v3)
  exact ⟨h.os, h.tape, h.output, h.size, h.block⟩
set_option maxHeartbeats 4000000 in
set_option maxRecDepth 100000 in
theorem apply_6one (H : Nat) (w : World) (q0 q1 : ByteArray) (A2 : Option Addr) (c2 : Nat) (l2 : List S50) (A3 : Option Addr) (n3 c3 : Nat) (s0 : Int) (s1 : ByteArray) (sf : List S50) (sb : List Int) (E2 : Option Addr) (g2 : Nat) (E3 : Option Addr) (g3 : Nat) (W : World) (pa : Aside0 (PA H w q0 q1 A2 c2 l2 A3 n3 c3 s0 s1 sf sb E2 g2 E3 g3 W)) (k : Nat) (ll : List S56) (x : S56) (nf : List S50) (sz t1 t2 : ByteArray) (L : Option Addr) (lc : Nat) (hl : Aside0 (Kd.C k56 W L ll.length ll)) (hlc : ll.length ≤ lc) (hsz : Aside0 (ItoaAt w (sb.length : Int) sz)) (hj : Aside0 (part_Join.f k ll = some [x]))
    (b0 : 0 ≤ x.f0) (b1 : x.f0 ≤ x.f1) (b2 : x.f1 ≤ (sb.length : Int)) (ht1 : Aside0 (ItoaAt w x.f0 t1)) (ht2 : Aside0 (ItoaAt w (wrap64 (x.f1 - 1)) t2)) (hset : Aside0 (head_Set.f k sf ⟨#[67, 111, 110, 116, 101, 110, 116, 45, 82, 97, 110, 103, 101]⟩ ((((((⟨#[98, 121, 116, 101, 115, 32]⟩ : ByteArray) ++ t1) ++ (⟨#[45]⟩ : ByteArray)) ++ t2) ++ (⟨#[47]⟩ : ByteArray)) ++ sz) = some nf))
    (l1 : t1.size ≤ 1000) (l2_ : t2.size ≤ 1000) (l3 : sz.size ≤ 1000) (u0 u1 u5 u8 u9 u10 u11 u12 u13 u14 u15 u16 u17 u18 u19 u20 u21 u22 u23 u24 u25 u26 u27 u28 u29 u30 u31 u32 u33 u34 u35 u36 u37 u38 u39 u40 u41 u42 u43 u44 u45 u46 u47 u48 u49 u50 u51 u52 u53 u54 u55 u56 u57 u58 u59 u60 u61 u62 u63 u64 u65 u66 u67 u68 u69 u70 u71 u72 u73 u74 u75 u76 u77 u78 u79 u80 u81 u82 u83 u84 u85 u86 u87 u88 u89 u90 u91 u92 u93 u94 u95 u96 : Value) :
    apply_p6.wp Tryz.prog (bodyPost Tryz.prog Tryz.f17 (ApplyPost w 206 ⟨#[80, 97, 114, 116, 105, 97, 108, 32, 67, 111, 110, 116, 101, 110, 116]⟩ nf ((sb.take x.f1.toNat).drop x.f0.toNat))) { tmps := #[u0, u1, .pointer (some ⟨H, 0, none⟩), .pointer (some ⟨H + 1, 0, none⟩), .pointer (some ⟨H + 1 + 1, 0, none⟩), u5, .slice L ll.length lc, .int .i64 0, u8, u9, u10, u11, u12, u13, u14, u15, u16, u17, u18, u19, u20, u21, u22, u23, u24, u25, u26, u27, u28, u29, u30, u31, u32, u33, u34, u35, u36, u37, u38, u39, u40, u41, u42, u43, u44, u45, u46, u47, u48, u49, u50, u51, u52, u53, u54, u55, u56, u57, u58, u59, u60, u61, u62, u63, u64, u65, u66, u67, u68, u69, u70, u71, u72, u73, u74, u75, u76, u77, u78, u79, u80, u81, u82, u83, u84, u85, u86, u87, u88, u89, u90, u91, u92, u93, u94, u95, u96], defers := [] } W := by
  obtain ⟨j, hjj⟩ : ∃ j : List S56, j = [x] := ⟨_, rfl⟩
  rw [← hjj] at hj
  obtain ⟨Q, hQ⟩ : ∃ Q, Q = bodyPost Tryz.prog Tryz.f17 (ApplyPost w 206 ⟨#[80, 97, 114, 116, 105, 97, 108, 32, 67, 111, 110, 116, 101, 110, 116]⟩ nf ((sb.take x.f1.toNat).drop x.f0.toNat)) := ⟨_, rfl⟩
  rw [← hQ]
  simp only [apply_p6, Tryz.f17]
  replace hQ := Aside0.mk hQ
  have hu37 := Tryz.underlying37
  have hu35 := Tryz.underlying35
  have hu50 := Tryz.underlying50
  have kr3 := blk_cell pa.out.r 3
  have cj0 : (j.length : Int) = 1 := by rw [hjj]; rfl
  have hjx := Aside0.mk hjj
  clear hjj
  go_wp2_with (first | (go_at_call 44; refine (hsz.out _ (by first | exact (pa.out.hH ▸ pa.out.below) | exact pw_below_drewN (pa.out.hH ▸ pa.out.below) _ | exact below_drew1 (pa.out.hH ▸ pa.out.below))).mono ?_; clear hsz; rintro e W1 ⟨rfl, m1⟩; replace m1 := Aside0.mk (below_then (B := W.heap.size) (w := W) (by first | exact Below.refl _ _ | exact pw_below_drewN (Below.refl _ _) _ | exact below_drew1 (Below.refl _ _)) (by exact Nat.le_refl _) m1)) | (go_at_call 12; refine (part_Join.calls k L lc ll j _ (Kd.C_below hl.out (by first | exact m1.out | exact pw_below_drewN m1.out _ | exact below_drew1 m1.out)) hlc hj.out).mono ?_; rintro e W2 ⟨vj, rfl, hR, hb2⟩; obtain ⟨J, jc, rfl, hjc, _⟩ := Kd.R_reads hR; have pa2 := Aside0.mk (pa.out.lies (below_then (B := W.heap.size) (w := W) (by first | exact m1.out | exact pw_below_drewN m1.out _ | exact below_drew1 m1.out) (by exact m1.out.size) hb2)); clear hb2; obtain ⟨jg, rfl, kj0, kj1⟩ := R_one56 hjx.out hR; clear hR; have pa3 := Aside0.mk (pa2.out.lies ((Below.refl _ W2).alloc (Nat.le_refl _) (Obj.cells #[.int .i64 x.f0, .int .i64 x.f1] 56)))))
  rename_i K1 hK1 rj K2 hK2
  refine wp_mono (apply_15 H w q0 q1 A2 c2 l2 A3 n3 c3 s0 s1 sf sb E2 g2 E3 g3 _ pa3 W2.heap.size x.f0 x.f1 (some ⟨jg, 0, none⟩) j.length jc sz (blk_new W2 _) (by have := blk_lt pa2.out.r; omega) b0 b1 b2 K2 _ _ _ _ _ _ _ _ _ _ _ _ _ _ _ _ _ _ _ _ _ _ _ _ _ _ _ _ _ _ _ _ _ _ _ _ _ _ _ _ _ _ _ _ _ _ _ _ _ _ _ _ _ _ _ _ _ _ _ _ _ _ _ _ _ _ _ _ _ _ _ _ _ _ _ _ _ _ _ _ _ _ _ _ _ _ _ _ _ _ _ ?_) ?_
  rotate_left
  · intro e a w h
    cases e <;> first | exact h | exact h.elim
  refine hK2 _ _ ?_
  clear hK2
  obtain ⟨EE, hEE⟩ : ∃ EE, EE = (if g3 = x.f0.toNat then E3 else Option.map (fun a => a.add x.f0.toNat) E3) := ⟨_, rfl⟩
  obtain ⟨gg, hgg⟩ : ∃ gg, gg = g3 - x.f0.toNat := ⟨_, rfl⟩
  rw [← hEE, ← hgg]
  replace hEE := Aside0.mk hEE
  replace hgg := Aside0.mk hgg
  obtain ⟨W3, hW3⟩ : ∃ W3, W3 = W2.alloc (Obj.cells #[.int .i64 x.f0, .int .i64 x.f1] 56) := ⟨_, rfl⟩
  have hxn : W3.heap[W2.heap.size]? = some (.cells #[.int .i64 x.f0, .int .i64 x.f1] 56 (0, 0)) := by rw [hW3]; exact blk_new W2 _
  rw [← hW3] at pa3 ⊢
  have hne : W2.heap.size ≠ H + 1 := by have := blk_lt pa2.out.r; omega
  have hr16 := blk_drew (blk_put (blk_put (blk_put pa3.out.r 0 (.int .i64 206) rfl) 1 (.string ⟨#[80, 97, 114, 116, 105, 97, 108, 32, 67, 111, 110, 116, 101, 110, 116]⟩) rfl) 3 (.slice EE (x.f1.toNat - x.f0.toNat) gg) rfl)
  have hx16 := blk_drew (blk_far (blk_far (blk_far hxn (p := ⟨H + 1, 0, none⟩) hne (.int .i64 206)) (p := ⟨H + 1, 1, none⟩) hne (.string ⟨#[80, 97, 114, 116, 105, 97, 108, 32, 67, 111, 110, 116, 101, 110, 116]⟩)) (p := ⟨H + 1, 3, none⟩) hne (.slice EE (x.f1.toNat - x.f0.toNat) gg))
  have gr15 := grown3 W3 (H + 1) 0 1 3 (.int .i64 206) (.string ⟨#[80, 97, 114, 116, 105, 97, 108, 32, 67, 111, 110, 116, 101, 110, 116]⟩) (.slice EE (x.f1.toNat - x.f0.toNat) gg)
  have z15 := blk_drew (blk_far (blk_far (blk_far pa3.out.z (p := ⟨H + 1, 0, none⟩) (by show H + 1 + 1 ≠ H + 1; omega) (.int .i64 206)) (p := ⟨H + 1, 1, none⟩) (by show H + 1 + 1 ≠ H + 1; omega) (.string ⟨#[80, 97, 114, 116, 105, 97, 108, 32, 67, 111, 110, 116, 101, 110, 116]⟩)) (p := ⟨H + 1, 3, none⟩) (by show H + 1 + 1 ≠ H + 1; omega) (.slice EE (x.f1.toNat - x.f0.toNat) gg))
  have b15 : Below H W3 _ := ((((Below.refl H W3).setCell (p := ⟨H + 1, 0, none⟩) (by show H ≤ H + 1; omega) (.int .i64 206)).setCell (p := ⟨H + 1, 1, none⟩) (by show H ≤ H + 1; omega) (.string ⟨#[80, 97, 114, 116, 105, 97, 108, 32, 67, 111, 110, 116, 101, 110, 116]⟩)).setCell (p := ⟨H + 1, 3, none⟩) (by show H ≤ H + 1; omega) (.slice EE (x.f1.toNat - x.f0.toNat) gg)).drew
  obtain ⟨W15, hW15⟩ : ∃ W15, W15 = (((W3.setCell ⟨H + 1, 0, none⟩ (.int .i64 206)).setCell ⟨H + 1, 1, none⟩ (.string ⟨#[80, 97, 114, 116, 105, 97, 108, 32, 67, 111, 110, 116, 101, 110, 116]⟩)).setCell ⟨H + 1, 3, none⟩ (.slice EE (x.f1.toNat - x.f0.toNat) gg)).drew := ⟨_, rfl⟩
  rw [← hW15] at hr16 hx16 gr15 z15 b15 ⊢
  have R2' := Kd.R_grown1 pa3.out.R2 rfl gr15 (out_of_own pa3.out.R2 (by omega))
  have R3' := Kd.R_grown1 pa3.out.R3 rfl gr15 (out_of_own pa3.out.R3 (by omega))
  have hlt15 := blk_lt z15
  refine wp_mono (apply_16 H W2.heap.size k x.f0 x.f1 sf nf E2 g2 _ _ _ t1 t2 sz W15 (some ⟨jg, 0, none⟩) j.length jc hr16 hx16 ⟨(Kd.R_reads' R2').2.2⟩ (Kd.R_reads' R2').2.1 w ⟨pa3.out.hH ▸ (pa3.out.below.trans b15)⟩ ht1 ht2 hset.out l1 l2_ l3 K1 ⟨?_⟩ _ _ _ _ _ _ _ _ _ _ _ _ _ _ _ _ _ _ _ _ _ _ _ _ _ _ _ _ _ _ _ _ _ _ _ _ _ _ _ _ _ _ _ _ _ _ _ _ _ _ _ _ _ _ _ _ _ _ _ _ _ _ _ _ _ _ _ _ _ _ _ _ _ _ _ _ _ _ _ _ _ _ _ _ _ _ _ _ _ _ _) ?_
  rotate_left
  · intro e a w h
    cases e <;> first | exact h | exact h.elim
  intro W4 D dc v0 v1 v5 v7 v10 v11 v12 v13 v14 v15 v16 v17 v18 v19 v20 v21 v22 v23 v24 v25 v26 v27 v28 v29 v30 v31 v32 v33 v34 v35 v36 v37 v38 v39 v40 v41 v42 v43 v44 v45 v46 v47 v48 v49 v50 v51 v52 v53 v54 v55 v56 v57 v58 v59 v60 v61 v62 v63 v64 v65 v66 v67 v68 v69 v70 v71 v72 v73 v74 v75 v76 v77 v78 v79 v80 v81 v82 v83 v84 v85 v86 v87 v88 v89 v90 v91 v92 v93 v94 v95 v96 hb4 hRn
  refine hK1 _ _ ?_
  clear hK1
  have hr5 := blk_put (blk_below hr16 hb4) 2 (.slice D nf.length dc) rfl
  have hz5 := blk_far (blk_below z15 hb4) (p := ⟨H + 1, 2, none⟩) (by show H + 1 + 1 ≠ H + 1; omega) (.slice D nf.length dc)
  have kr0 := blk_cell hr5 0
  have kr1 := blk_cell hr5 1
  have kr2 := blk_cell hr5 2
  have kr3 := blk_cell hr5 3
  obtain ⟨⟨z0, f0⟩, ⟨z1, f1⟩, ⟨z2, f2⟩, ⟨z3, f3⟩⟩ := put4_way (.int .i64 206) (.string ⟨#[80, 97, 114, 116, 105, 97, 108, 32, 67, 111, 110, 116, 101, 110, 116]⟩) (.slice D nf.length dc) hz5
  have gr5 := grown1 W4 (H + 1) 2 (.slice D nf.length dc)
  have grz := put4_grown (W4.setCell ⟨H + 1, 2, none⟩ (.slice D nf.length dc)) (H + 1 + 1) (.int .i64 206) (.string ⟨#[80, 97, 114, 116, 105, 97, 108, 32, 67, 111, 110, 116, 101, 110, 116]⟩) (.slice D nf.length dc) (.slice EE (x.f1.toNat - x.f0.toNat) gg)
  have Rn5 := Kd.R_grown1 hRn rfl gr5 (out_of_own hRn (by omega))
  have Rn6 := Aside0.mk (Kd.R_grown1 Rn5 rfl grz (out_of_own Rn5 (by omega)))
  have R34 := Kd.R_below R3' hb4
  have R35 := Kd.R_grown1 R34 rfl gr5 (out_of_own R34 (by omega))
  have R36 := Aside0.mk (Kd.R_grown1 R35 rfl grz (out_of_own R35 (by omega)))
  have BB := Aside0.mk (((pa3.out.below.trans b15).trans (hb4.mono (by omega))).setCell (p := ⟨H + 1, 2, none⟩) (by show H ≤ H + 1; omega) (.slice D nf.length dc))
  have HZ5 := Aside0.mk hz5
  clear gr5 grz Rn5 R34 R35 hRn R2' R3' hb4 hr5 hz5 gr15 z15 b15 hr16 hx16 hxn kj0 kj1
  go_wp2
  rw [hQ.out]
  refine bodyPost_ret (results_cell_row rfl _ _ (H + 1 + 1) 37 #[.int .i64 206, .string ⟨#[80, 97, 114, 116, 105, 97, 108, 32, 67, 111, 110, 116, 101, 110, 116]⟩, .slice D nf.length dc, (.slice EE (x.f1.toNat - x.f0.toNat) gg)] (0, 0) _ rfl (put4_box _ _ _ _ HZ5.out) Tryz.underlying37 rfl (by kernel_rfl)) rfl ?_
  have q := Kd.Q_drop (k := x.f0.toNat) (Kd.Q_take (m := x.f1.toNat) (Kd.Q_of_R R36.out) (by omega)) (by rw [List.length_take]; omega)
  rw [show x.f0.toNat * (Kd.int .u8).sz = x.f0.toNat from Nat.mul_one _, ← hEE.out, ← hgg.out] at q
  have hH := pa3.out.hH
  exact ⟨_, _, rfl, Kd.R_lower Rn6.out (by omega), Kd.Q_lower q (by omega), pa3.out.hH ▸ BB.out.trans (put4_below _ _ _ _ (by omega))⟩
end Go.Proofs.YtacgmcmnnogbbaaGreatDoor.PX

namespace Go.Proofs.YtacgmcmnnogbbaaGreatDoor.PX
open Go.RowKit Go.Proofs Go.Proofs.YtacgmcmnnogbbaaGreatDoorW.PrintWords Go.Proofs.YtacgmcmnnogbbaaGreatDoorW.PrintLast Go.Proofs.YtacgmcmnnogbbaaGreatDoorW.PrintMore
set_option linter.unusedVariables false
set_option linter.unusedSimpArgs false
def part_ApplyG.last (It : Int → Option ByteArray) (k : Nat) (s : Int × ByteArray × List S50 × List Int) (sz : ByteArray) : List S56 → Option (Int × ByteArray × List S50 × List Int)
  | [] => some (416, ⟨#[82, 97, 110, 103, 101, 32, 78, 111, 116, 32, 83, 97, 116, 105, 115, 102, 105, 97, 98, 108, 101]⟩, [⟨⟨#[67, 111, 110, 116, 101, 110, 116, 45, 82, 97, 110, 103, 101]⟩, (⟨#[98, 121, 116, 101, 115, 32, 42, 47]⟩ : ByteArray) ++ sz⟩], [])
  | [x] => if 0 ≤ x.f0 ∧ x.f0 ≤ x.f1 ∧ x.f1 ≤ (s.2.2.2.length : Int) then
      (It x.f0).bind fun t1 => (It (wrap64 (x.f1 - 1))).bind fun t2 => if t1.size ≤ 1000 ∧ t2.size ≤ 1000 then
        (head_Set.f k s.2.2.1 ⟨#[67, 111, 110, 116, 101, 110, 116, 45, 82, 97, 110, 103, 101]⟩ ((((((⟨#[98, 121, 116, 101, 115, 32]⟩ : ByteArray) ++ t1) ++ (⟨#[45]⟩ : ByteArray)) ++ t2) ++ (⟨#[47]⟩ : ByteArray)) ++ sz)).bind fun nf => some (206, ⟨#[80, 97, 114, 116, 105, 97, 108, 32, 67, 111, 110, 116, 101, 110, 116]⟩, nf, (s.2.2.2.take x.f1.toNat).drop x.f0.toNat) else none
    else none
  | _ => some s
def part_ApplyG.f (It : Int → Option ByteArray) (k : Nat) (a0_0 a0_1 : ByteArray) (l0_2 : List S50) (l0_3 : List Int) (a1_0 : Int) (a1_1 : ByteArray) (l1_2 : List S50) (l1_3 : List Int) : Option (Int × ByteArray × List S50 × List Int) :=
  (part_copied.f a1_0 a1_1 l1_2 l1_3).bind fun s => (head_All.f k l0_2 ⟨#[82, 97, 110, 103, 101]⟩).bind fun asks =>
    if a0_0 = ⟨#[71, 69, 84]⟩ ∧ s.1 = 200 ∧ asks.length = 1 then
      (part_Holds.f k l0_2 200 s.2.1 s.2.2.1 s.2.2.2).bind fun h => if h = true then
        (part_Parse.f k (asks.headD ⟨#[]⟩) (s.2.2.2.length : Int)).bind fun p => if p.2 = 0 then
          (It (s.2.2.2.length : Int)).bind fun sz => if sz.size ≤ 1000 then (part_Join.f k p.1).bind fun j => part_ApplyG.last It k s sz j else none
        else some s
      else none
    else some s
set_option maxHeartbeats 4000000 in
set_option maxRecDepth 100000 in
theorem part_ApplyG.calls (It : Int → Option ByteArray) (k : Nat) (q0 q1 : ByteArray) (A2 : Option Addr) (c2 : Nat) (l2 : List S50) (A3 : Option Addr) (c3 : Nat) (l3 : List Int) (a0 : Int) (a1 : ByteArray) (B2 : Option Addr) (d2 : Nat) (m2 : List S50) (B3 : Option Addr) (d3 : Nat) (m3 : List Int)
    (r0 : Int) (r1 : ByteArray) (r2 : List S50) (r3 : List Int) (w : World)
    (hq : Kd.C k50 w A2 l2.length l2) (hq' : l2.length ≤ c2) (hq3 : Kd.C (Kd.int .u8) w A3 l3.length l3) (hq3' : l3.length ≤ c3) (hr2 : Kd.C k50 w B2 m2.length m2) (hr2' : m2.length ≤ d2) (hr3 : Kd.C (Kd.int .u8) w B3 m3.length m3) (hr3' : m3.length ≤ d3)
    (hIt : ∀ n t, It n = some t → ItoaAt w n t) (h : part_ApplyG.f It k q0 q1 l2 l3 a0 a1 m2 m3 = some (r0, r1, r2, r3)) :
    Calls Tryz.prog 17 #[.agg #[.string q0, .string q1, .slice A2 l2.length c2, .slice A3 l3.length c3], .agg #[.int .i64 a0, .string a1, .slice B2 m2.length d2, .slice B3 m3.length d3]] w (ApplyPost w r0 r1 r2 r3) := by
  unfold part_ApplyG.f at h
  obtain ⟨⟨s0, s1, sf, sb⟩, hc, h⟩ := Option.bind_eq_some_iff.mp h
  obtain ⟨asks, hall, h⟩ := Option.bind_eq_some_iff.mp h
  refine apply_head k q0 q1 A2 c2 l2 A3 c3 l3.length a0 a1 B2 d2 m2 B3 d3 m3 w s0 s1 sf sb asks (ApplyPost w r0 r1 r2 r3) hc hall hq hq' hr2 hr2' hr3 hr3' ⟨?_⟩
  clear hr2 hr2' hr3 hr3' hc hall hq
  intro W E2 g2 E3 g3 AA ac u0 u1 u6 u7 u8 u9 u10 u11 u12 u13 u14 u15 u16 u17 u18 u19 u20 u21 u22 u23 u24 u25 u26 u27 u28 u29 u30 u31 u32 u33 u34 u35 u36 u37 u38 u39 u40 u41 u42 u43 u44 u45 u46 u47 u48 u49 u50 u51 u52 u53 u54 u55 u56 u57 u58 u59 u60 u61 u62 u63 u64 u65 u66 u67 u68 u69 u70 u71 u72 u73 u74 u75 u76 u77 u78 u79 u80 u81 u82 u83 u84 u85 u86 u87 u88 u89 u90 u91 u92 u93 u94 u95 u96 pa hCA hac
  by_cases hm : q0 = ⟨#[71, 69, 84]⟩
  case neg =>
    rw [if_neg (fun hh => hm hh.1)] at h
    obtain ⟨rfl, rfl, rfl, rfl⟩ : s0 = r0 ∧ s1 = r1 ∧ sf = r2 ∧ sb = r3 := by simpa using h
    exact apply_3q _ w q0 q1 A2 c2 l2 A3 _ c3 _ _ _ _ E2 g2 E3 g3 W ⟨pa⟩ AA asks.length ac hm _ _ _ _ _ _ _ _ _ _ _ _ _ _ _ _ _ _ _ _ _ _ _ _ _ _ _ _ _ _ _ _ _ _ _ _ _ _ _ _ _ _ _ _ _ _ _ _ _ _ _ _ _ _ _ _ _ _ _ _ _ _ _ _ _ _ _ _ _ _ _ _ _ _ _ _ _ _ _ _ _ _ _ _ _ _ _ _ _ _ _ _ _
  by_cases hs : s0 = 200
  case neg =>
    rw [if_neg (fun hh => hs hh.2.1)] at h
    obtain ⟨rfl, rfl, rfl, rfl⟩ : s0 = r0 ∧ s1 = r1 ∧ sf = r2 ∧ sb = r3 := by simpa using h
    exact apply_3s _ w q0 q1 A2 c2 l2 A3 _ c3 _ _ _ _ E2 g2 E3 g3 W ⟨pa⟩ AA asks.length ac hm hs _ _ _ _ _ _ _ _ _ _ _ _ _ _ _ _ _ _ _ _ _ _ _ _ _ _ _ _ _ _ _ _ _ _ _ _ _ _ _ _ _ _ _ _ _ _ _ _ _ _ _ _ _ _ _ _ _ _ _ _ _ _ _ _ _ _ _ _ _ _ _ _ _ _ _ _ _ _ _ _ _ _ _ _ _ _ _ _ _ _ _ _ _
  by_cases han : asks.length = 1
  case neg =>
    rw [if_neg (fun hh => han hh.2.2)] at h
    obtain ⟨rfl, rfl, rfl, rfl⟩ : s0 = r0 ∧ s1 = r1 ∧ sf = r2 ∧ sb = r3 := by simpa using h
    exact apply_3a _ w q0 q1 A2 c2 l2 A3 _ c3 _ _ _ _ E2 g2 E3 g3 W ⟨pa⟩ AA asks.length ac hm hs han _ _ _ _ _ _ _ _ _ _ _ _ _ _ _ _ _ _ _ _ _ _ _ _ _ _ _ _ _ _ _ _ _ _ _ _ _ _ _ _ _ _ _ _ _ _ _ _ _ _ _ _ _ _ _ _ _ _ _ _ _ _ _ _ _ _ _ _ _ _ _ _ _ _ _ _ _ _ _ _ _ _ _ _ _ _ _ _ _ _ _ _ _
  rw [if_pos ⟨hm, hs, han⟩] at h
  obtain ⟨hb, hh, h⟩ := Option.bind_eq_some_iff.mp h
  cases hb with
  | false => simp at h
  | true =>
  rw [if_pos rfl] at h
  obtain ⟨⟨ll, e⟩, hp, h5⟩ := Option.bind_eq_some_iff.mp h
  clear h
  dsimp only at hp h5
  obtain ⟨v0, rfl⟩ : ∃ v0, asks = [v0] := List.length_eq_one_iff.mp han
  obtain ⟨ad, rfl, hcell⟩ := C_str1 hCA
  rw [apply_p3_eq]
  refine wp_seq (wp_mono (apply_3ok _ w q0 q1 A2 c2 l2 A3 _ c3 _ _ _ _ E2 g2 E3 g3 W ⟨pa⟩ k (some ad) ac hm hs hq' ⟨hh⟩ (apply_p5.wp Tryz.prog (bodyPost Tryz.prog Tryz.f17 (ApplyPost w r0 r1 r2 r3))) ⟨?_⟩ _ _ _ _ _ _ _ _ _ _ _ _ _ _ _ _ _ _ _ _ _ _ _ _ _ _ _ _ _ _ _ _ _ _ _ _ _ _ _ _ _ _ _ _ _ _ _ _ _ _ _ _ _ _ _ _ _ _ _ _ _ _ _ _ _ _ _ _ _ _ _ _ _ _ _ _ _ _ _ _ _ _ _ _ _ _ _ _ _ _ _ _ _) ?_)
  rotate_left
  · intro e a w h
    cases e <;> first | exact h | exact h.elim
  clear u0 u1 u6 u7 u8 u9 u10 u11 u12 u13 u14 u15 u16 u17 u18 u19 u20 u21 u22 u23 u24 u25 u26 u27 u28 u29 u30 u31 u32 u33 u34 u35 u36 u37 u38 u39 u40 u41 u42 u43 u44 u45 u46 u47 u48 u49 u50 u51 u52 u53 u54 u55 u56 u57 u58 u59 u60 u61 u62 u63 u64 u65 u66 u67 u68 u69 u70 u71 u72 u73 u74 u75 u76 u77 u78 u79 u80 u81 u82 u83 u84 u85 u86 u87 u88 u89 u90 u91 u92 u93 u94 u95 u96
  intro W' u0 u1 u6 u7 u8 u9 u10 u11 u12 u13 u14 u15 u16 u17 u18 u19 u20 u21 u22 u23 u24 u25 u26 u27 u28 u29 u30 u31 u32 u33 u34 u35 u36 u37 u38 u39 u40 u41 u42 u43 u44 u45 u46 u47 u48 u49 u50 u51 u52 u53 u54 u55 u56 u57 u58 u59 u60 u61 u62 u63 u64 u65 u66 u67 u68 u69 u70 u71 u72 u73 u74 u75 u76 u77 u78 u79 u80 u81 u82 u83 u84 u85 u86 u87 u88 u89 u90 u91 u92 u93 u94 u95 u96 hb5
  have hCA' := Kd.C_below hCA hb5
  have pa' := pa.lies hb5
  clear pa hCA hcell hh
  obtain ⟨ad', had, hcell⟩ := C_str1 hCA'
  cases had
  rw [apply_p5_eq]
  refine wp_seq (wp_mono (apply_5 _ w q0 q1 A2 c2 l2 A3 _ c3 _ _ _ _ E2 g2 E3 g3 W' ⟨pa'⟩ k v0 ad ac hac hcell ll e ⟨hp⟩ (apply_p6.wp Tryz.prog (bodyPost Tryz.prog Tryz.f17 (ApplyPost w r0 r1 r2 r3))) ⟨?_⟩ _ _ _ _ _ _ _ _ _ _ _ _ _ _ _ _ _ _ _ _ _ _ _ _ _ _ _ _ _ _ _ _ _ _ _ _ _ _ _ _ _ _ _ _ _ _ _ _ _ _ _ _ _ _ _ _ _ _ _ _ _ _ _ _ _ _ _ _ _ _ _ _ _ _ _ _ _ _ _ _ _ _ _ _ _ _ _ _ _ _ _ _ _) ?_)
  rotate_left
  · intro e a w h
    cases e <;> first | exact h | exact h.elim
  clear u0 u1 u6 u7 u8 u9 u10 u11 u12 u13 u14 u15 u16 u17 u18 u19 u20 u21 u22 u23 u24 u25 u26 u27 u28 u29 u30 u31 u32 u33 u34 u35 u36 u37 u38 u39 u40 u41 u42 u43 u44 u45 u46 u47 u48 u49 u50 u51 u52 u53 u54 u55 u56 u57 u58 u59 u60 u61 u62 u63 u64 u65 u66 u67 u68 u69 u70 u71 u72 u73 u74 u75 u76 u77 u78 u79 u80 u81 u82 u83 u84 u85 u86 u87 u88 u89 u90 u91 u92 u93 u94 u95 u96
  intro W'' L lc u0 u1 u5 u8 u9 u10 u11 u12 u13 u14 u15 u16 u17 u18 u19 u20 u21 u22 u23 u24 u25 u26 u27 u28 u29 u30 u31 u32 u33 u34 u35 u36 u37 u38 u39 u40 u41 u42 u43 u44 u45 u46 u47 u48 u49 u50 u51 u52 u53 u54 u55 u56 u57 u58 u59 u60 u61 u62 u63 u64 u65 u66 u67 u68 u69 u70 u71 u72 u73 u74 u75 u76 u77 u78 u79 u80 u81 u82 u83 u84 u85 u86 u87 u88 u89 u90 u91 u92 u93 u94 u95 u96 hb6 hL hlc
  have pa'' := pa'.lies hb6
  by_cases he : e = 0
  case neg =>
    rw [if_neg he] at h5
    obtain ⟨rfl, rfl, rfl, rfl⟩ : s0 = r0 ∧ s1 = r1 ∧ sf = r2 ∧ sb = r3 := by simpa using h5
    exact apply_6err _ w q0 q1 A2 c2 l2 A3 _ c3 _ _ _ _ E2 g2 E3 g3 W'' ⟨pa''⟩ e he L ll.length lc _ _ _ _ _ _ _ _ _ _ _ _ _ _ _ _ _ _ _ _ _ _ _ _ _ _ _ _ _ _ _ _ _ _ _ _ _ _ _ _ _ _ _ _ _ _ _ _ _ _ _ _ _ _ _ _ _ _ _ _ _ _ _ _ _ _ _ _ _ _ _ _ _ _ _ _ _ _ _ _ _ _ _ _ _ _ _ _ _ _ _ _
  rw [if_pos he] at h5
  subst he
  obtain ⟨sz, hsz, h5⟩ := Option.bind_eq_some_iff.mp h5
  by_cases hz : sz.size ≤ 1000
  case neg => rw [if_neg hz] at h5; exact absurd h5 (by simp)
  rw [if_pos hz] at h5
  obtain ⟨j, hj, h5⟩ := Option.bind_eq_some_iff.mp h5
  match j, hj, h5 with
  | [], hj, h5 =>
    simp only [part_ApplyG.last] at h5
    injection h5 with h5
    injection h5 with e1 h5
    injection h5 with e2 h5
    injection h5 with e3 e4
    subst e1; subst e2; subst e3; subst e4
    exact apply_6none _ w q0 q1 A2 c2 l2 A3 _ c3 _ _ _ _ E2 g2 E3 g3 W'' ⟨pa''⟩ k ll sz L lc ⟨hL⟩ hlc ⟨hIt _ _ hsz⟩ ⟨hj⟩ hz _ _ _ _ _ _ _ _ _ _ _ _ _ _ _ _ _ _ _ _ _ _ _ _ _ _ _ _ _ _ _ _ _ _ _ _ _ _ _ _ _ _ _ _ _ _ _ _ _ _ _ _ _ _ _ _ _ _ _ _ _ _ _ _ _ _ _ _ _ _ _ _ _ _ _ _ _ _ _ _ _ _ _ _ _ _ _ _ _ _ _ _
  | [x], hj, h5 =>
    simp only [part_ApplyG.last] at h5
    by_cases hx : 0 ≤ x.f0 ∧ x.f0 ≤ x.f1 ∧ x.f1 ≤ (sb.length : Int)
    case neg => rw [if_neg hx] at h5; exact absurd h5 (by simp)
    rw [if_pos hx] at h5
    obtain ⟨t1, ht1, h5⟩ := Option.bind_eq_some_iff.mp h5
    obtain ⟨t2, ht2, h5⟩ := Option.bind_eq_some_iff.mp h5
    by_cases hl : t1.size ≤ 1000 ∧ t2.size ≤ 1000
    case neg => rw [if_neg hl] at h5; exact absurd h5 (by simp)
    rw [if_pos hl] at h5
    obtain ⟨nf, hset, h5⟩ := Option.bind_eq_some_iff.mp h5
    injection h5 with h5
    injection h5 with e1 h5
    injection h5 with e2 h5
    injection h5 with e3 e4
    subst e1; subst e2; subst e3; subst e4
    exact apply_6one _ w q0 q1 A2 c2 l2 A3 _ c3 _ _ _ _ E2 g2 E3 g3 W'' ⟨pa''⟩ k ll x nf sz t1 t2 L lc ⟨hL⟩ hlc ⟨hIt _ _ hsz⟩ ⟨hj⟩ hx.1 hx.2.1 hx.2.2 ⟨hIt _ _ ht1⟩ ⟨hIt _ _ ht2⟩ ⟨hset⟩ hl.1 hl.2 hz _ _ _ _ _ _ _ _ _ _ _ _ _ _ _ _ _ _ _ _ _ _ _ _ _ _ _ _ _ _ _ _ _ _ _ _ _ _ _ _ _ _ _ _ _ _ _ _ _ _ _ _ _ _ _ _ _ _ _ _ _ _ _ _ _ _ _ _ _ _ _ _ _ _ _ _ _ _ _ _ _ _ _ _ _ _ _ _ _ _ _ _
  | x :: y :: t, hj, h5 =>
    simp only [part_ApplyG.last] at h5
    injection h5 with h5
    injection h5 with e1 h5
    injection h5 with e2 h5
    injection h5 with e3 e4
    subst e1; subst e2; subst e3; subst e4
    exact apply_6many _ w q0 q1 A2 c2 l2 A3 _ c3 _ _ _ _ E2 g2 E3 g3 W'' ⟨pa''⟩ k ll (x :: y :: t) sz L lc ⟨hL⟩ hlc ⟨hIt _ _ hsz⟩ ⟨hj⟩ (by simp) (by simp) _ _ _ _ _ _ _ _ _ _ _ _ _ _ _ _ _ _ _ _ _ _ _ _ _ _ _ _ _ _ _ _ _ _ _ _ _ _ _ _ _ _ _ _ _ _ _ _ _ _ _ _ _ _ _ _ _ _ _ _ _ _ _ _ _ _ _ _ _ _ _ _ _ _ _ _ _ _ _ _ _ _ _ _ _ _ _ _ _ _ _ _
/-- With the small numbers' Itoa. -/
def part_Apply.f (k : Nat) (a0_0 a0_1 : ByteArray) (l0_2 : List S50) (l0_3 : List Int) (a1_0 : Int) (a1_1 : ByteArray) (l1_2 : List S50) (l1_3 : List Int) : Option (Int × ByteArray × List S50 × List Int) := part_ApplyG.f strconv_Itoa.f k a0_0 a0_1 l0_2 l0_3 a1_0 a1_1 l1_2 l1_3
theorem part_Apply.calls (k : Nat) (q0 q1 : ByteArray) (A2 : Option Addr) (c2 : Nat) (l2 : List S50) (A3 : Option Addr) (c3 : Nat) (l3 : List Int) (a0 : Int) (a1 : ByteArray) (B2 : Option Addr) (d2 : Nat) (m2 : List S50) (B3 : Option Addr) (d3 : Nat) (m3 : List Int)
    (r0 : Int) (r1 : ByteArray) (r2 : List S50) (r3 : List Int) (w : World)
    (hq : Kd.C k50 w A2 l2.length l2) (hq' : l2.length ≤ c2) (hq3 : Kd.C (Kd.int .u8) w A3 l3.length l3) (hq3' : l3.length ≤ c3) (hr2 : Kd.C k50 w B2 m2.length m2) (hr2' : m2.length ≤ d2) (hr3 : Kd.C (Kd.int .u8) w B3 m3.length m3) (hr3' : m3.length ≤ d3)
    (h : part_Apply.f k q0 q1 l2 l3 a0 a1 m2 m3 = some (r0, r1, r2, r3)) :
    Calls Tryz.prog 17 #[.agg #[.string q0, .string q1, .slice A2 l2.length c2, .slice A3 l3.length c3], .agg #[.int .i64 a0, .string a1, .slice B2 m2.length d2, .slice B3 m3.length d3]] w (ApplyPost w r0 r1 r2 r3) :=
  part_ApplyG.calls strconv_Itoa.f k q0 q1 A2 c2 l2 A3 c3 l3 a0 a1 B2 d2 m2 B3 d3 m3 r0 r1 r2 r3 w hq hq' hq3 hq3' hr2 hr2' hr3 hr3' (fun n t h => ItoaAt.small h) h
end Go.Proofs.YtacgmcmnnogbbaaGreatDoor.PX

namespace Go.Proofs.YtacgmcmnnogbbaaGreatDoor.PX
open Go.RowKit Go.Proofs.YtacgmcmnnogbbaaGreatDoorW.PrintWords Go.Proofs.YtacgmcmnnogbbaaGreatDoorW.PrintLast Go.Proofs.YtacgmcmnnogbbaaGreatDoorW.PrintMore
attribute [local go_sem] max2_int min2_int max_two min_two max_three min_three max_four min_four
set_option linter.unusedVariables false
set_option linter.unusedSimpArgs false
def ambrylaw25_known.f (k : Nat)  : Option (Bool) := (some (([(⟨(⟨#[82, 97, 110, 103, 101]⟩ : ByteArray), (⟨#[98, 121, 116, 101, 115, 61, 48, 45, 49, 44, 50, 45, 51]⟩ : ByteArray)⟩ : S50)] : List (S50)) : List (S50))).bind fun y101 => ((part_Apply.f k (⟨#[71, 69, 84]⟩ : ByteArray) (⟨#[]⟩ : ByteArray) y101 ([] : List Int) 200 (⟨#[]⟩ : ByteArray) ([] : List (S50)) (([97, 98, 99, 100, 101, 102] : List Int))).bind fun bt108 => ((part_Parse.f k (⟨#[98, 121, 116, 101, 115, 61, 45, 50]⟩ : ByteArray) 5).bind fun bt117 => ((part_Parse.f k (⟨#[120]⟩ : ByteArray) 5).bind fun bt121 => (if bt108.1 = 206 then (if (strOfNums bt108.2.2.2).toList = ([97, 98, 99, 100] : List UInt8) then (if bt117.2 = 0 then (if (bt117.1.length : Int) = 1 then (if 0 < (bt117.1.length : Int) then (if ((rd_T56 bt117.1 0).f0) = 3 then (if ((rd_T56 bt117.1 0).f1) = 5 then (if bt121.2 = 121 then ((part_Strip.f k (⟨#[71, 69, 84]⟩ : ByteArray) (⟨#[]⟩ : ByteArray) y101 ([] : List Int)).bind fun bt127 => (some ((bt127.2.2.1.length : Int) == 0))) else (some false)) else (some false)) else (some false)) else (none)) else (some false)) else (some false)) else (some false)) else (some false)))))
set_option maxHeartbeats 8000000 in
set_option maxRecDepth 100000 in
theorem ambrylaw25_known.calls (k : Nat)  (r : Bool) (hr : r = true) (w : World) (h : ambrylaw25_known.f k  = some r) :
    Calls Tryz.prog 8 #[] w fun e w' => e = .returned (.bool r) ∧ Below w.heap.size w w' := by
  have hu50 := Tryz.underlying50
  have hu35 := Tryz.underlying35
  have hu37 := Tryz.underlying37
  have HB := Aside0.mk (Below.refl w.heap.size w)
  have H : ((some (([(⟨(⟨#[82, 97, 110, 103, 101]⟩ : ByteArray), (⟨#[98, 121, 116, 101, 115, 61, 48, 45, 49, 44, 50, 45, 51]⟩ : ByteArray)⟩ : S50)] : List (S50)) : List (S50))).bind fun y101 => ((part_Apply.f k (⟨#[71, 69, 84]⟩ : ByteArray) (⟨#[]⟩ : ByteArray) y101 ([] : List Int) 200 (⟨#[]⟩ : ByteArray) ([] : List (S50)) (([97, 98, 99, 100, 101, 102] : List Int))).bind fun bt108 => ((part_Parse.f k (⟨#[98, 121, 116, 101, 115, 61, 45, 50]⟩ : ByteArray) 5).bind fun bt117 => ((part_Parse.f k (⟨#[120]⟩ : ByteArray) 5).bind fun bt121 => (if bt108.1 = 206 then (if (strOfNums bt108.2.2.2).toList = ([97, 98, 99, 100] : List UInt8) then (if bt117.2 = 0 then (if (bt117.1.length : Int) = 1 then (if 0 < (bt117.1.length : Int) then (if ((rd_T56 bt117.1 0).f0) = 3 then (if ((rd_T56 bt117.1 0).f1) = 5 then (if bt121.2 = 121 then ((part_Strip.f k (⟨#[71, 69, 84]⟩ : ByteArray) (⟨#[]⟩ : ByteArray) y101 ([] : List Int)).bind fun bt127 => (some ((bt127.2.2.1.length : Int) == 0))) else (some false)) else (some false)) else (some false)) else (none)) else (some false)) else (some false)) else (some false)) else (some false)))))) = some r := h
  clear h
  obtain ⟨y101, hy101⟩ : ∃ y_ : List (S50), y_ = (([(⟨(⟨#[82, 97, 110, 103, 101]⟩ : ByteArray), (⟨#[98, 121, 116, 101, 115, 61, 48, 45, 49, 44, 50, 45, 51]⟩ : ByteArray)⟩ : S50)] : List (S50))) := ⟨_, rfl⟩
  replace H : ((part_Apply.f k (⟨#[71, 69, 84]⟩ : ByteArray) (⟨#[]⟩ : ByteArray) y101 ([] : List Int) 200 (⟨#[]⟩ : ByteArray) ([] : List (S50)) (([97, 98, 99, 100, 101, 102] : List Int))).bind fun bt108 => ((part_Parse.f k (⟨#[98, 121, 116, 101, 115, 61, 45, 50]⟩ : ByteArray) 5).bind fun bt117 => ((part_Parse.f k (⟨#[120]⟩ : ByteArray) 5).bind fun bt121 => (if bt108.1 = 206 then (if (strOfNums bt108.2.2.2).toList = ([97, 98, 99, 100] : List UInt8) then (if bt117.2 = 0 then (if (bt117.1.length : Int) = 1 then (if 0 < (bt117.1.length : Int) then (if ((rd_T56 bt117.1 0).f0) = 3 then (if ((rd_T56 bt117.1 0).f1) = 5 then (if bt121.2 = 121 then ((part_Strip.f k (⟨#[71, 69, 84]⟩ : ByteArray) (⟨#[]⟩ : ByteArray) y101 ([] : List Int)).bind fun bt127 => (some ((bt127.2.2.1.length : Int) == 0))) else (some false)) else (some false)) else (some false)) else (none)) else (some false)) else (some false)) else (some false)) else (some false))))) = some r := by first | (rw [hy101]; with_reducible exact H) | (have H2_ := (Option.bind_some _ _).symm.trans H; rw [hy101]; with_reducible exact H2_) | (have H2_ := (Option.bind_some _ _).symm.trans H; with_reducible exact H2_) | with_reducible exact H | (rw [hy101]; exact H) | exact H
  have Ny101 := Aside0.mk hy101
  clear hy101
  obtain ⟨y105, hy105⟩ : ∃ y_ : List Int, y_ = (([97, 98, 99, 100, 101, 102] : List Int)) := ⟨_, rfl⟩
  replace H : ((part_Apply.f k (⟨#[71, 69, 84]⟩ : ByteArray) (⟨#[]⟩ : ByteArray) y101 ([] : List Int) 200 (⟨#[]⟩ : ByteArray) ([] : List (S50)) y105).bind fun bt108 => ((part_Parse.f k (⟨#[98, 121, 116, 101, 115, 61, 45, 50]⟩ : ByteArray) 5).bind fun bt117 => ((part_Parse.f k (⟨#[120]⟩ : ByteArray) 5).bind fun bt121 => (if bt108.1 = 206 then (if (strOfNums bt108.2.2.2).toList = ([97, 98, 99, 100] : List UInt8) then (if bt117.2 = 0 then (if (bt117.1.length : Int) = 1 then (if 0 < (bt117.1.length : Int) then (if ((rd_T56 bt117.1 0).f0) = 3 then (if ((rd_T56 bt117.1 0).f1) = 5 then (if bt121.2 = 121 then ((part_Strip.f k (⟨#[71, 69, 84]⟩ : ByteArray) (⟨#[]⟩ : ByteArray) y101 ([] : List Int)).bind fun bt127 => (some ((bt127.2.2.1.length : Int) == 0))) else (some false)) else (some false)) else (some false)) else (none)) else (some false)) else (some false)) else (some false)) else (some false))))) = some r := by first | (rw [hy105]; with_reducible exact H) | (have H2_ := (Option.bind_some _ _).symm.trans H; rw [hy105]; with_reducible exact H2_) | (have H2_ := (Option.bind_some _ _).symm.trans H; with_reducible exact H2_) | with_reducible exact H | (rw [hy105]; exact H) | exact H
  have Ny105 := Aside0.mk hy105
  clear hy105
  replace H := Option.bind_eq_some_iff.mp H
  obtain ⟨⟨t108, t109, t110, t113⟩, A10, H⟩ := H
  replace H : ((part_Parse.f k (⟨#[98, 121, 116, 101, 115, 61, 45, 50]⟩ : ByteArray) 5).bind fun bt117 => ((part_Parse.f k (⟨#[120]⟩ : ByteArray) 5).bind fun bt121 => (if t108 = 206 then (if (strOfNums t113).toList = ([97, 98, 99, 100] : List UInt8) then (if bt117.2 = 0 then (if (bt117.1.length : Int) = 1 then (if 0 < (bt117.1.length : Int) then (if ((rd_T56 bt117.1 0).f0) = 3 then (if ((rd_T56 bt117.1 0).f1) = 5 then (if bt121.2 = 121 then ((part_Strip.f k (⟨#[71, 69, 84]⟩ : ByteArray) (⟨#[]⟩ : ByteArray) y101 ([] : List Int)).bind fun bt127 => (some ((bt127.2.2.1.length : Int) == 0))) else (some false)) else (some false)) else (some false)) else (none)) else (some false)) else (some false)) else (some false)) else (some false)))) = some r := H
  have A1 := Aside0.mk A10
  clear A10
  replace H := Option.bind_eq_some_iff.mp H
  obtain ⟨⟨t117, t118⟩, A20, H⟩ := H
  replace H : ((part_Parse.f k (⟨#[120]⟩ : ByteArray) 5).bind fun bt121 => (if t108 = 206 then (if (strOfNums t113).toList = ([97, 98, 99, 100] : List UInt8) then (if t118 = 0 then (if (t117.length : Int) = 1 then (if 0 < (t117.length : Int) then (if ((rd_T56 t117 0).f0) = 3 then (if ((rd_T56 t117 0).f1) = 5 then (if bt121.2 = 121 then ((part_Strip.f k (⟨#[71, 69, 84]⟩ : ByteArray) (⟨#[]⟩ : ByteArray) y101 ([] : List Int)).bind fun bt127 => (some ((bt127.2.2.1.length : Int) == 0))) else (some false)) else (some false)) else (some false)) else (none)) else (some false)) else (some false)) else (some false)) else (some false))) = some r := H
  have A2 := Aside0.mk A20
  clear A20
  replace H := Option.bind_eq_some_iff.mp H
  obtain ⟨⟨t121, t122⟩, A30, H⟩ := H
  replace H : (if t108 = 206 then (if (strOfNums t113).toList = ([97, 98, 99, 100] : List UInt8) then (if t118 = 0 then (if (t117.length : Int) = 1 then (if 0 < (t117.length : Int) then (if ((rd_T56 t117 0).f0) = 3 then (if ((rd_T56 t117 0).f1) = 5 then (if t122 = 121 then ((part_Strip.f k (⟨#[71, 69, 84]⟩ : ByteArray) (⟨#[]⟩ : ByteArray) y101 ([] : List Int)).bind fun bt127 => (some ((bt127.2.2.1.length : Int) == 0))) else (some false)) else (some false)) else (some false)) else (none)) else (some false)) else (some false)) else (some false)) else (some false)) = some r := H
  have A3 := Aside0.mk A30
  clear A30
  by_cases c4 : t108 = 206
  · rw [if_pos c4] at H
    have c4b0 : (t108 == 206) = true := beq_iff_eq.mpr c4
    have c4b1 : (t108 != 206) = false := bne_eq_false_iff_eq.mpr c4
    clear c4
    by_cases c5 : (strOfNums t113).toList = ([97, 98, 99, 100] : List UInt8)
    · rw [if_pos c5] at H
      have c5b0 : ((strOfNums t113).toList == ([97, 98, 99, 100] : List UInt8)) = true := beq_iff_eq.mpr c5
      have c5b1 : ((strOfNums t113).toList != ([97, 98, 99, 100] : List UInt8)) = false := bne_eq_false_iff_eq.mpr c5
      clear c5
      by_cases c6 : t118 = 0
      · rw [if_pos c6] at H
        have c6b0 : (t118 == 0) = true := beq_iff_eq.mpr c6
        have c6b1 : (t118 != 0) = false := bne_eq_false_iff_eq.mpr c6
        clear c6
        by_cases c7 : (t117.length : Int) = 1
        · rw [if_pos c7] at H
          have c7b0 : ((t117.length : Int) == 1) = true := beq_iff_eq.mpr c7
          have c7b1 : ((t117.length : Int) != 1) = false := bne_eq_false_iff_eq.mpr c7
          clear c7
          by_cases c8 : 0 < (t117.length : Int)
          · rw [if_pos c8] at H
            have c8b0 : decide (0 < (t117.length : Int)) = true := decide_eq_true c8
            have c8b1 : decide (0 < t117.length) = true := decide_eq_true (by omega)
            clear c8
            by_cases c9 : ((rd_T56 t117 0).f0) = 3
            · rw [if_pos c9] at H
              have c9b0 : (((rd_T56 t117 0).f0) == 3) = true := beq_iff_eq.mpr c9
              have c9b1 : (((rd_T56 t117 0).f0) != 3) = false := bne_eq_false_iff_eq.mpr c9
              clear c9
              by_cases c10 : ((rd_T56 t117 0).f1) = 5
              · rw [if_pos c10] at H
                have c10b0 : (((rd_T56 t117 0).f1) == 5) = true := beq_iff_eq.mpr c10
                have c10b1 : (((rd_T56 t117 0).f1) != 5) = false := bne_eq_false_iff_eq.mpr c10
                clear c10
                by_cases c11 : t122 = 121
                · rw [if_pos c11] at H
                  have c11b0 : (t122 == 121) = true := beq_iff_eq.mpr c11
                  have c11b1 : (t122 != 121) = false := bne_eq_false_iff_eq.mpr c11
                  clear c11
                  replace H := Option.bind_eq_some_iff.mp H
                  obtain ⟨⟨t127, t128, t129, t132⟩, A120, H⟩ := H
                  replace H : (some ((t129.length : Int) == 0)) = some r := H
                  have A12 := Aside0.mk A120
                  clear A120
                  obtain rfl := Option.some.inj H
                  go_enter Tryz.func8, Tryz.ntmps8
                  go_wp2_with (first | ((with_reducible refine gate_dst (N := 8) rfl ?_); (try (refine gate_guard (by rfl) ?_; dsimp only)); refine Kd.R_lit k50 _ 50 ?hg (N := 8) ?hd (xs := ([(⟨(⟨#[82, 97, 110, 103, 101]⟩ : ByteArray), (⟨#[98, 121, 116, 101, 115, 61, 48, 45, 49, 44, 50, 45, 51]⟩ : ByteArray)⟩ : S50)] : List (S50))) (inner := [.string (⟨#[82, 97, 110, 103, 101]⟩ : ByteArray), .string (⟨#[98, 121, 116, 101, 115, 61, 48, 45, 49, 44, 50, 45, 51]⟩ : ByteArray)]) (ok := fun _ => True) (okp := fun _ => True) ?hr ?hp (fun _ hk => hk) trivial (Below.refl _ _) (Nat.le_refl _) (by simp) ?_; (case hd => rfl); (case hg => rfl); (case hr => first | (go_simp; done) | (go_simp; rfl)); (case hp => exact (Reps.c2 (show Kd.M k50 _ _ _ (⟨(⟨#[82, 97, 110, 103, 101]⟩ : ByteArray), (⟨#[98, 121, 116, 101, 115, 61, 48, 45, 49, 44, 50, 45, 51]⟩ : ByteArray)⟩ : S50) [.string (⟨#[82, 97, 110, 103, 101]⟩ : ByteArray), .string (⟨#[98, 121, 116, 101, 115, 61, 48, 45, 49, 44, 50, 45, 51]⟩ : ByteArray)] from (k50_mkM _ _ _ (⟨(⟨#[82, 97, 110, 103, 101]⟩ : ByteArray), (⟨#[98, 121, 116, 101, 115, 61, 48, 45, 49, 44, 50, 45, 51]⟩ : ByteArray)⟩ : S50) )) (Reps.none _ _))); intro v102 w13 ho14 hb hg_ hnew_; clear hg_ hnew_; (first | rw [← Ny101.out] at ho14 | (simp only [Int.reduceToNat] at ho14; rw [← Ny101.out] at ho14)); have n0_ := Aside0.mk (Kd.R_lower ho14 (below_size (by repeat (first | (with_reducible first | exact HB.out | apply below_alloc | apply pw_below_drewN | apply below_drew1) | exact HB.out)))); have n1_ := Aside0.mk (below_step (by repeat (first | (with_reducible first | exact HB.out | apply below_alloc | apply pw_below_drewN | apply below_drew1) | exact HB.out)) hb); clear HB; have HO103 := n0_; have HB := n1_; clear n0_ n1_; clear hb ho14; obtain ⟨Ao15, co15, eo15⟩ := Kd.R_slice HO103.out; subst eo15) | ((with_reducible refine gate_dst (N := 1) rfl ?_); (try (refine gate_guard (by rfl) ?_; dsimp only)); refine box_event ?hg (N := 1) ?hd (cs := #[.string (⟨#[]⟩ : ByteArray), .string (⟨#[]⟩ : ByteArray), .slice none 0 0, .slice none 0 0]) (t := 35) ?hr ?_; (case hd => rfl); (case hg => rfl); (case hr => first | (go_simp; done) | (go_simp; rfl)); intro gb104 hg w16 hbox hb; have n0_ := Aside0.mk (Kd.R_below (by (with_reducible repeat (first | apply Kd.R_alloc | apply Kd.R_drewN | apply Kd.R_drew)); exact HO103.out) hb); have n1_ := Aside0.mk (below_step (by repeat (first | (with_reducible first | exact HB.out | apply below_alloc | apply pw_below_drewN | apply below_drew1) | exact HB.out)) hb); have n2_ := Aside0.mk (hbox); have n3_ := Aside0.mk ((by rw [hg]; exact (below_size (by repeat (first | (with_reducible first | exact HB.out | apply below_alloc | apply pw_below_drewN | apply below_drew1) | exact HB.out))) : w.heap.size ≤ gb104)); have n4_ := Aside0.mk ((by rw [hg]; exact (below_size (by repeat (first | (with_reducible first | exact HB.out | apply below_alloc | apply pw_below_drewN | apply below_drew1) | exact HB.out))) : w.heap.size ≤ gb104)); clear HO103; clear HB; have HO103 := n0_; have HB := n1_; have BK104 := n2_; have GW104 := n3_; have GE104 := n4_; clear n0_ n1_ n2_ n3_ n4_; clear hb hbox hg; have hcz17_0 : w16.cell? ⟨gb104, 0, none⟩ = some (.string (⟨#[]⟩ : ByteArray)) := (blk_cell BK104.out 0).trans rfl; have hcz17_1 : w16.cell? ⟨gb104, 1, none⟩ = some (.string (⟨#[]⟩ : ByteArray)) := (blk_cell BK104.out 1).trans rfl; have hcz17_2 : w16.cell? ⟨gb104, 2, none⟩ = some (.slice none 0 0) := (blk_cell BK104.out 2).trans rfl; have hcz17_3 : w16.cell? ⟨gb104, 3, none⟩ = some (.slice none 0 0) := (blk_cell BK104.out 3).trans rfl; have hfz17_0 := blk_frozen BK104.out 0; have hfz17_1 := blk_frozen BK104.out 1; have hfz17_2 := blk_frozen BK104.out 2; have hfz17_3 := blk_frozen BK104.out 3) | ((with_reducible refine gate_dst (N := 11) rfl ?_); (try (refine gate_guard (by rfl) ?_; dsimp only)); refine Kd.R_lit (Kd.int .u8) _ 5 ?hg (N := 11) ?hd (xs := ([97, 98, 99, 100, 101, 102] : List Int)) (inner := [.int .u8 97, .int .u8 98, .int .u8 99, .int .u8 100, .int .u8 101, .int .u8 102]) (ok := fun _ => True) (okp := fun _ => True) ?hr ?hp (fun _ hk => hk) trivial (Below.refl _ _) (Nat.le_refl _) (by simp) ?_; (case hd => rfl); (case hg => rfl); (case hr => first | (go_simp; done) | (go_simp; rfl)); (case hp => exact (Reps.one (show Kd.M (Kd.int .u8) _ _ _ 97 [.int .u8 97] from rfl) (Reps.one (show Kd.M (Kd.int .u8) _ _ _ 98 [.int .u8 98] from rfl) (Reps.one (show Kd.M (Kd.int .u8) _ _ _ 99 [.int .u8 99] from rfl) (Reps.one (show Kd.M (Kd.int .u8) _ _ _ 100 [.int .u8 100] from rfl) (Reps.one (show Kd.M (Kd.int .u8) _ _ _ 101 [.int .u8 101] from rfl) (Reps.one (show Kd.M (Kd.int .u8) _ _ _ 102 [.int .u8 102] from rfl) (Reps.none _ _)))))))); intro v106 w18 ho19 hb hg_ hnew_; clear hg_ hnew_; (first | rw [← Ny105.out] at ho19 | (simp only [Int.reduceToNat] at ho19; rw [← Ny105.out] at ho19)); have n0_ := Aside0.mk (Kd.R_below (by (with_reducible repeat (first | apply Kd.R_alloc | apply Kd.R_drewN | apply Kd.R_drew)); exact (Kd.R_mono (Kd.R_far (p := ⟨gb104, 3, none⟩) (Kd.R_far (p := ⟨gb104, 2, none⟩) (Kd.R_far (p := ⟨gb104, 1, none⟩) (Kd.R_far (p := ⟨gb104, 0, none⟩) (Kd.R_types HO103.out BK104.out (by decide)) (fun _ hk => hk.2) (.string (⟨#[71, 69, 84]⟩ : ByteArray))) (fun _ hk => hk.2) (.string (⟨#[]⟩ : ByteArray))) (fun _ hk => hk.2) (.slice Ao15 y101.length co15)) (fun _ hk => hk.2) (.slice none 0 0)) (fun _ h_ => h_.1))) hb); have n1_ := Aside0.mk (Kd.R_lower ho19 (below_size (by repeat (first | (with_reducible first | exact HB.out | apply below_alloc | apply pw_below_drewN | apply below_drew1 | refine below_set ?_ GE104.out) | exact HB.out)))); have n2_ := Aside0.mk (blk_below (g := gb104) (o := .cells #[.string (⟨#[71, 69, 84]⟩ : ByteArray), .string (⟨#[]⟩ : ByteArray), .slice Ao15 y101.length co15, .slice none 0 0] 35 (0, 0)) (by (with_reducible repeat (first | refine blk_drewN ?_ _ | refine blk_drew ?_ | refine blk_alloc ?_ _)); refine blk_put (cs := #[.string (⟨#[71, 69, 84]⟩ : ByteArray), .string (⟨#[]⟩ : ByteArray), .slice Ao15 y101.length co15, .slice none 0 0]) ?_ 3 _ rfl; (with_reducible repeat (first | refine blk_drewN ?_ _ | refine blk_drew ?_ | refine blk_alloc ?_ _)); refine blk_put (cs := #[.string (⟨#[71, 69, 84]⟩ : ByteArray), .string (⟨#[]⟩ : ByteArray), .slice none 0 0, .slice none 0 0]) ?_ 2 _ rfl; (with_reducible repeat (first | refine blk_drewN ?_ _ | refine blk_drew ?_ | refine blk_alloc ?_ _)); refine blk_put (cs := #[.string (⟨#[71, 69, 84]⟩ : ByteArray), .string (⟨#[]⟩ : ByteArray), .slice none 0 0, .slice none 0 0]) ?_ 1 _ rfl; (with_reducible repeat (first | refine blk_drewN ?_ _ | refine blk_drew ?_ | refine blk_alloc ?_ _)); refine blk_put (cs := #[.string (⟨#[]⟩ : ByteArray), .string (⟨#[]⟩ : ByteArray), .slice none 0 0, .slice none 0 0]) ?_ 0 _ rfl; (with_reducible repeat (first | refine blk_drewN ?_ _ | refine blk_drew ?_ | refine blk_alloc ?_ _)); exact BK104.out) hb); have n3_ := Aside0.mk (below_step (by repeat (first | (with_reducible first | exact HB.out | apply below_alloc | apply pw_below_drewN | apply below_drew1 | refine below_set ?_ GE104.out) | exact HB.out)) hb); clear HO103; clear BK104; clear HB; have HO103 := n0_; have HO107 := n1_; have BK104 := n2_; have HB := n3_; clear n0_ n1_ n2_ n3_; clear hb ho19; obtain ⟨Ao20, co20, eo20⟩ := Kd.R_slice HO107.out; subst eo20) | (obtain ⟨g_c, w_c, hg_c, hb_c, hrun_c, hgr_c, hC_c, hc_c, cs_c, hcell_c⟩ := conv33_run HO107.out (by rw [Ny105.out]; decide); rw [hrun_c]; simp only [Result.andThen]; rw [Oper.upon_value]; have n0_ := Aside0.mk (Kd.R_grown1 HO103.out rfl hgr_c (Kd.R_ne HO103.out hcell_c (by decide))); have n2_ := Aside0.mk ((hgr_c.block gb104 (blk_lt BK104.out) (by intro e_; injection e_ with e_; rw [← e_, BK104.out] at hcell_c; injection hcell_c with e1_; injection e1_ with _ e2_; exact absurd e2_ (by decide))).trans BK104.out); have n3_ := Aside0.mk (pw_below_grown HB.out (some g_c) HB.out.size hgr_c (by intro k_ hk_; injection hk_ with hk_; omega)); have n1_ := Aside0.mk (Kd.R_nil (Kd.int .u8) 5 w_c w.heap.size (fun _ => True)); have HC107 := Aside0.mk (And.intro hC_c hc_c); clear HO103 HO107 BK104 HB hg_c hb_c hrun_c hgr_c hC_c hc_c hcell_c; have HO103 := n0_; have HO107 := n1_; have BK104 := n2_; have HB := n3_; clear n0_ n1_ n2_ n3_) | (rw [field35_2]; simp only [Result.andThen]; rw [Oper.upon_value]) | ((with_reducible refine gate_callee (f := 17) rfl ?_); refine goesL_ (some 14) rfl rfl Tryz.func17 (by kernel_rfl) rfl #[.agg #[.string (⟨#[71, 69, 84]⟩ : ByteArray), .string (⟨#[]⟩ : ByteArray), .slice Ao15 y101.length co15, .slice none 0 0], .agg #[.int .i64 200, .string (⟨#[]⟩ : ByteArray), .slice none 0 0, .slice Ao20 y105.length co20]] rfl (by (try simp only [List.map_toArray, List.map_cons, List.map_nil]); first | done | rfl | (simp only [List.length_drop, List.length_take]; rfl)) ?_; (refine (part_Apply.calls k (⟨#[71, 69, 84]⟩ : ByteArray) (⟨#[]⟩ : ByteArray) _ _ y101 _ _ ([] : List Int) 200 (⟨#[]⟩ : ByteArray) _ _ ([] : List (S50)) _ _ y105 t108 t109 t110 t113 _ ?side1 ?side2 ?side3 ?side4 ?side5 ?side6 ?side7 ?side8 A1.out).mono ?_); (case side1 => repeat (first | exact (Kd.R_reads' HO103.out).2.2 | (with_reducible refine Kd.C_alloc ?_ _) | (with_reducible refine Kd.C_drewN ?_ _) | (with_reducible refine Kd.C_drew ?_))); (case side2 => exact (Kd.R_reads' HO103.out).2.1); (case side3 => exact Kd.C_nil _ _); (case side4 => exact Nat.le_refl _); (case side5 => exact Kd.C_nil _ _); (case side6 => exact Nat.le_refl _); (case side7 => repeat (first | exact HC107.out.1 | (with_reducible refine Kd.C_alloc ?_ _) | (with_reducible refine Kd.C_drewN ?_ _) | (with_reducible refine Kd.C_drew ?_))); (case side8 => exact HC107.out.2); rintro e w21 ⟨v111, v114, rfl, ho0, ho1, hb⟩; refine ⟨_, rfl, ?_⟩; have n0_ := Aside0.mk (Kd.R_elder' (by (with_reducible repeat (first | apply Kd.R_alloc | apply Kd.R_drewN | apply Kd.R_drew)); exact HO103.out) (Kd.R_base ho0) hb); have n1_ := Aside0.mk (Kd.R_elder' (by (with_reducible repeat (first | apply Kd.R_alloc | apply Kd.R_drewN | apply Kd.R_drew)); exact HO107.out) (Kd.Q_base ho1) hb); have n2_ := Aside0.mk (Kd.R_lower (Kd.R_new' ho0 (Kd.R_lt (by (with_reducible repeat (first | apply Kd.R_alloc | apply Kd.R_drewN | apply Kd.R_drew)); exact HO103.out))) (below_size (by repeat (first | (with_reducible first | exact HB.out | apply below_alloc | apply pw_below_drewN | apply below_drew1 | refine below_set ?_ GE104.out) | exact HB.out)))); have n3_ := Aside0.mk (Kd.Q_lower (Kd.Q_new' ho1 (Kd.R_lt (by (with_reducible repeat (first | apply Kd.R_alloc | apply Kd.R_drewN | apply Kd.R_drew)); exact HO107.out))) (below_size (by repeat (first | (with_reducible first | exact HB.out | apply below_alloc | apply pw_below_drewN | apply below_drew1 | refine below_set ?_ GE104.out) | exact HB.out)))); have n4_ := Aside0.mk (blk_below (g := gb104) (o := .cells #[.string (⟨#[71, 69, 84]⟩ : ByteArray), .string (⟨#[]⟩ : ByteArray), .slice Ao15 y101.length co15, .slice none 0 0] 35 (0, 0)) (by (with_reducible repeat (first | refine blk_drewN ?_ _ | refine blk_drew ?_ | refine blk_alloc ?_ _)); exact BK104.out) hb); have n5_ := Aside0.mk (below_step (by repeat (first | (with_reducible first | exact HB.out | apply below_alloc | apply pw_below_drewN | apply below_drew1 | refine below_set ?_ GE104.out) | exact HB.out)) hb); clear HO103; clear HO107; clear BK104; clear HB; have HO103 := n0_; have HO107 := n1_; have HO112 := n2_; have HO115 := n3_; have BK104 := n4_; have HB := n5_; clear n0_ n1_ n2_ n3_ n4_ n5_; (try clear hb); (try clear hb2); (try clear hk); (try clear hi); (try clear ho0); (try clear ho1)) | ((with_reducible refine gate_dst (N := 2) rfl ?_); (try (refine gate_guard (by rfl) ?_; dsimp only)); refine box_event ?hg (N := 2) ?hd (cs := #[.int .i64 0, .string (⟨#[]⟩ : ByteArray), .slice none 0 0, .slice none 0 0]) (t := 37) ?hr ?_; (case hd => rfl); (case hg => rfl); (case hr => first | (go_simp; done) | (go_simp; rfl)); intro gb116 hg w22 hbox hb; have n0_ := Aside0.mk (Kd.R_below (by (with_reducible repeat (first | apply Kd.R_alloc | apply Kd.R_drewN | apply Kd.R_drew)); exact HO103.out) hb); have n1_ := Aside0.mk (Kd.R_below (by (with_reducible repeat (first | apply Kd.R_alloc | apply Kd.R_drewN | apply Kd.R_drew)); exact HO107.out) hb); have n2_ := Aside0.mk (Kd.R_below (by (with_reducible repeat (first | apply Kd.R_alloc | apply Kd.R_drewN | apply Kd.R_drew)); exact HO112.out) hb); have n3_ := Aside0.mk (Kd.Q_below (by (with_reducible repeat (first | apply Kd.Q_alloc | apply Kd.Q_drewN | apply Kd.Q_drew)); exact HO115.out) hb); have n4_ := Aside0.mk (blk_below (g := gb104) (o := .cells #[.string (⟨#[71, 69, 84]⟩ : ByteArray), .string (⟨#[]⟩ : ByteArray), .slice Ao15 y101.length co15, .slice none 0 0] 35 (0, 0)) (by (with_reducible repeat (first | refine blk_drewN ?_ _ | refine blk_drew ?_ | refine blk_alloc ?_ _)); exact BK104.out) hb); have n5_ := Aside0.mk (below_step (by repeat (first | (with_reducible first | exact HB.out | apply below_alloc | apply pw_below_drewN | apply below_drew1 | refine below_set ?_ GE104.out) | exact HB.out)) hb); have n6_ := Aside0.mk (hbox); have n7_ := Aside0.mk ((by rw [hg]; exact (below_size (by repeat (first | (with_reducible first | exact HB.out | apply below_alloc | apply pw_below_drewN | apply below_drew1 | refine below_set ?_ GE104.out) | exact HB.out))) : w.heap.size ≤ gb116)); have n8_ := Aside0.mk ((by rw [hg]; exact (below_size (by repeat (first | (with_reducible first | exact HB.out | apply below_alloc | apply pw_below_drewN | apply below_drew1 | refine below_set ?_ GE104.out) | exact HB.out))) : w.heap.size ≤ gb116)); have n9_ := Aside0.mk ((by rw [hg]; exact Nat.ne_of_lt (blk_lt (g := gb104) (o := .cells #[.string (⟨#[71, 69, 84]⟩ : ByteArray), .string (⟨#[]⟩ : ByteArray), .slice Ao15 y101.length co15, .slice none 0 0] 35 (0, 0)) (by (with_reducible repeat (first | refine blk_drewN ?_ _ | refine blk_drew ?_ | refine blk_alloc ?_ _)); exact BK104.out)) : gb104 ≠ gb116)); have n10_ := Aside0.mk ((by rw [hg]; exact Nat.ne_of_gt (blk_lt (g := gb104) (o := .cells #[.string (⟨#[71, 69, 84]⟩ : ByteArray), .string (⟨#[]⟩ : ByteArray), .slice Ao15 y101.length co15, .slice none 0 0] 35 (0, 0)) (by (with_reducible repeat (first | refine blk_drewN ?_ _ | refine blk_drew ?_ | refine blk_alloc ?_ _)); exact BK104.out)) : gb116 ≠ gb104)); clear HO103; clear HO107; clear HO112; clear HO115; clear BK104; clear HB; have HO103 := n0_; have HO107 := n1_; have HO112 := n2_; have HO115 := n3_; have BK104 := n4_; have HB := n5_; have BK116 := n6_; have GW116 := n7_; have GE116 := n8_; have NB104_116 := n9_; have NB116_104 := n10_; clear n0_ n1_ n2_ n3_ n4_ n5_ n6_ n7_ n8_ n9_ n10_; clear hb hbox hg; have hnb23 := NB116_104.out; have hnc23 := NB104_116.out; have hcz24_0 : w22.cell? ⟨gb116, 0, none⟩ = some (.int .i64 0) := (blk_cell BK116.out 0).trans rfl; have hcz24_1 : w22.cell? ⟨gb116, 1, none⟩ = some (.string (⟨#[]⟩ : ByteArray)) := (blk_cell BK116.out 1).trans rfl; have hcz24_2 : w22.cell? ⟨gb116, 2, none⟩ = some (.slice none 0 0) := (blk_cell BK116.out 2).trans rfl; have hcz24_3 : w22.cell? ⟨gb116, 3, none⟩ = some (.slice none 0 0) := (blk_cell BK116.out 3).trans rfl; have hfz24_0 := blk_frozen BK116.out 0; have hfz24_1 := blk_frozen BK116.out 1; have hfz24_2 := blk_frozen BK116.out 2; have hfz24_3 := blk_frozen BK116.out 3; obtain ⟨Ao25, co25, eo25⟩ := Kd.R_slice HO112.out; subst eo25; obtain ⟨Ao26, co26, eo26, _⟩ := Kd.Q_slice HO115.out; subst eo26) | ((with_reducible refine gate_callee (f := 9) rfl ?_); refine goesL_ (some 16) rfl rfl Tryz.func9 (by kernel_rfl) rfl #[.string (⟨#[98, 121, 116, 101, 115, 61, 45, 50]⟩ : ByteArray), .int .i64 5] rfl (by (try simp only [List.map_toArray, List.map_cons, List.map_nil]); first | done | rfl | (simp only [List.length_drop, List.length_take]; rfl)) ?_; (with_reducible refine (part_Parse.calls k (⟨#[98, 121, 116, 101, 115, 61, 45, 50]⟩ : ByteArray) 5 t117 t118 _ A2.out).mono ?_); rintro e w27 ⟨v119, rfl, ho0, hb⟩; refine ⟨_, rfl, ?_⟩; have n0_ := Aside0.mk (Kd.R_below (by (with_reducible repeat (first | apply Kd.R_alloc | apply Kd.R_drewN | apply Kd.R_drew)); exact (Kd.R_mono (Kd.R_far (p := ⟨gb116, 3, none⟩) (Kd.R_far (p := ⟨gb116, 2, none⟩) (Kd.R_far (p := ⟨gb116, 1, none⟩) (Kd.R_far (p := ⟨gb116, 0, none⟩) (Kd.R_types HO103.out BK116.out (by decide)) (fun _ hk => hk.2) (.int .i64 t108)) (fun _ hk => hk.2) (.string t109)) (fun _ hk => hk.2) (.slice Ao25 t110.length co25)) (fun _ hk => hk.2) (.slice Ao26 t113.length co26)) (fun _ h_ => h_.1))) hb); have n1_ := Aside0.mk (Kd.R_below (by (with_reducible repeat (first | apply Kd.R_alloc | apply Kd.R_drewN | apply Kd.R_drew)); exact (Kd.R_mono (Kd.R_far (p := ⟨gb116, 3, none⟩) (Kd.R_far (p := ⟨gb116, 2, none⟩) (Kd.R_far (p := ⟨gb116, 1, none⟩) (Kd.R_far (p := ⟨gb116, 0, none⟩) (Kd.R_types HO107.out BK116.out (by decide)) (fun _ hk => hk.2) (.int .i64 t108)) (fun _ hk => hk.2) (.string t109)) (fun _ hk => hk.2) (.slice Ao25 t110.length co25)) (fun _ hk => hk.2) (.slice Ao26 t113.length co26)) (fun _ h_ => h_.1))) hb); have n2_ := Aside0.mk (Kd.R_below (by (with_reducible repeat (first | apply Kd.R_alloc | apply Kd.R_drewN | apply Kd.R_drew)); exact (Kd.R_mono (Kd.R_far (p := ⟨gb116, 3, none⟩) (Kd.R_far (p := ⟨gb116, 2, none⟩) (Kd.R_far (p := ⟨gb116, 1, none⟩) (Kd.R_far (p := ⟨gb116, 0, none⟩) (Kd.R_types HO112.out BK116.out (by decide)) (fun _ hk => hk.2) (.int .i64 t108)) (fun _ hk => hk.2) (.string t109)) (fun _ hk => hk.2) (.slice Ao25 t110.length co25)) (fun _ hk => hk.2) (.slice Ao26 t113.length co26)) (fun _ h_ => h_.1))) hb); have n3_ := Aside0.mk (Kd.Q_below (by (with_reducible repeat (first | apply Kd.Q_alloc | apply Kd.Q_drewN | apply Kd.Q_drew)); exact (Kd.Q_mono (Kd.Q_far (p := ⟨gb116, 3, none⟩) (Kd.Q_far (p := ⟨gb116, 2, none⟩) (Kd.Q_far (p := ⟨gb116, 1, none⟩) (Kd.Q_far (p := ⟨gb116, 0, none⟩) (Kd.Q_types HO115.out BK116.out (by decide)) (fun _ hk => hk.2) (.int .i64 t108)) (fun _ hk => hk.2) (.string t109)) (fun _ hk => hk.2) (.slice Ao25 t110.length co25)) (fun _ hk => hk.2) (.slice Ao26 t113.length co26)) (fun _ h_ => h_.1))) hb); have n4_ := Aside0.mk (Kd.R_lower ho0 (below_size (by repeat (first | (with_reducible first | exact HB.out | apply below_alloc | apply pw_below_drewN | apply below_drew1 | refine below_set ?_ GE104.out | refine below_set ?_ GE116.out) | exact HB.out)))); have n5_ := Aside0.mk (blk_below (g := gb104) (o := .cells #[.string (⟨#[71, 69, 84]⟩ : ByteArray), .string (⟨#[]⟩ : ByteArray), .slice Ao15 y101.length co15, .slice none 0 0] 35 (0, 0)) (by (with_reducible repeat (first | refine blk_drewN ?_ _ | refine blk_drew ?_ | refine blk_alloc ?_ _)); refine blk_far ?_ NB104_116.out _; (with_reducible repeat (first | refine blk_drewN ?_ _ | refine blk_drew ?_ | refine blk_alloc ?_ _)); refine blk_far ?_ NB104_116.out _; (with_reducible repeat (first | refine blk_drewN ?_ _ | refine blk_drew ?_ | refine blk_alloc ?_ _)); refine blk_far ?_ NB104_116.out _; (with_reducible repeat (first | refine blk_drewN ?_ _ | refine blk_drew ?_ | refine blk_alloc ?_ _)); refine blk_far ?_ NB104_116.out _; (with_reducible repeat (first | refine blk_drewN ?_ _ | refine blk_drew ?_ | refine blk_alloc ?_ _)); exact BK104.out) hb); have n6_ := Aside0.mk (blk_below (g := gb116) (o := .cells #[.int .i64 t108, .string t109, .slice Ao25 t110.length co25, .slice Ao26 t113.length co26] 37 (0, 0)) (by (with_reducible repeat (first | refine blk_drewN ?_ _ | refine blk_drew ?_ | refine blk_alloc ?_ _)); refine blk_put (cs := #[.int .i64 t108, .string t109, .slice Ao25 t110.length co25, .slice none 0 0]) ?_ 3 _ rfl; (with_reducible repeat (first | refine blk_drewN ?_ _ | refine blk_drew ?_ | refine blk_alloc ?_ _)); refine blk_put (cs := #[.int .i64 t108, .string t109, .slice none 0 0, .slice none 0 0]) ?_ 2 _ rfl; (with_reducible repeat (first | refine blk_drewN ?_ _ | refine blk_drew ?_ | refine blk_alloc ?_ _)); refine blk_put (cs := #[.int .i64 t108, .string (⟨#[]⟩ : ByteArray), .slice none 0 0, .slice none 0 0]) ?_ 1 _ rfl; (with_reducible repeat (first | refine blk_drewN ?_ _ | refine blk_drew ?_ | refine blk_alloc ?_ _)); refine blk_put (cs := #[.int .i64 0, .string (⟨#[]⟩ : ByteArray), .slice none 0 0, .slice none 0 0]) ?_ 0 _ rfl; (with_reducible repeat (first | refine blk_drewN ?_ _ | refine blk_drew ?_ | refine blk_alloc ?_ _)); exact BK116.out) hb); have n7_ := Aside0.mk (below_step (by repeat (first | (with_reducible first | exact HB.out | apply below_alloc | apply pw_below_drewN | apply below_drew1 | refine below_set ?_ GE104.out | refine below_set ?_ GE116.out) | exact HB.out)) hb); clear HO103; clear HO107; clear HO112; clear HO115; clear BK104; clear BK116; clear HB; have HO103 := n0_; have HO107 := n1_; have HO112 := n2_; have HO115 := n3_; have HO120 := n4_; have BK104 := n5_; have BK116 := n6_; have HB := n7_; clear n0_ n1_ n2_ n3_ n4_ n5_ n6_ n7_; (try clear hb); (try clear hb2); (try clear hk); (try clear hi); (try clear ho0)) | ((with_reducible refine gate_callee (f := 9) rfl ?_); refine goesL_ (some 20) rfl rfl Tryz.func9 (by kernel_rfl) rfl #[.string (⟨#[120]⟩ : ByteArray), .int .i64 5] rfl (by (try simp only [List.map_toArray, List.map_cons, List.map_nil]); first | done | rfl | (simp only [List.length_drop, List.length_take]; rfl)) ?_; (with_reducible refine (part_Parse.calls k (⟨#[120]⟩ : ByteArray) 5 t121 t122 _ A3.out).mono ?_); rintro e w28 ⟨v123, rfl, ho0, hb⟩; refine ⟨_, rfl, ?_⟩; have n0_ := Aside0.mk (Kd.R_below (by (with_reducible repeat (first | apply Kd.R_alloc | apply Kd.R_drewN | apply Kd.R_drew)); exact HO103.out) hb); have n1_ := Aside0.mk (Kd.R_below (by (with_reducible repeat (first | apply Kd.R_alloc | apply Kd.R_drewN | apply Kd.R_drew)); exact HO107.out) hb); have n2_ := Aside0.mk (Kd.R_below (by (with_reducible repeat (first | apply Kd.R_alloc | apply Kd.R_drewN | apply Kd.R_drew)); exact HO112.out) hb); have n3_ := Aside0.mk (Kd.Q_below (by (with_reducible repeat (first | apply Kd.Q_alloc | apply Kd.Q_drewN | apply Kd.Q_drew)); exact HO115.out) hb); have n4_ := Aside0.mk (Kd.R_elder' (by (with_reducible repeat (first | apply Kd.R_alloc | apply Kd.R_drewN | apply Kd.R_drew)); exact HO120.out) (Kd.R_base ho0) hb); have n5_ := Aside0.mk (Kd.R_lower (Kd.R_new' ho0 (Kd.R_lt (by (with_reducible repeat (first | apply Kd.R_alloc | apply Kd.R_drewN | apply Kd.R_drew)); exact HO120.out))) (below_size (by repeat (first | (with_reducible first | exact HB.out | apply below_alloc | apply pw_below_drewN | apply below_drew1 | refine below_set ?_ GE104.out | refine below_set ?_ GE116.out) | exact HB.out)))); have n6_ := Aside0.mk (blk_below (g := gb104) (o := .cells #[.string (⟨#[71, 69, 84]⟩ : ByteArray), .string (⟨#[]⟩ : ByteArray), .slice Ao15 y101.length co15, .slice none 0 0] 35 (0, 0)) (by (with_reducible repeat (first | refine blk_drewN ?_ _ | refine blk_drew ?_ | refine blk_alloc ?_ _)); exact BK104.out) hb); have n7_ := Aside0.mk (blk_below (g := gb116) (o := .cells #[.int .i64 t108, .string t109, .slice Ao25 t110.length co25, .slice Ao26 t113.length co26] 37 (0, 0)) (by (with_reducible repeat (first | refine blk_drewN ?_ _ | refine blk_drew ?_ | refine blk_alloc ?_ _)); exact BK116.out) hb); have n8_ := Aside0.mk (below_step (by repeat (first | (with_reducible first | exact HB.out | apply below_alloc | apply pw_below_drewN | apply below_drew1 | refine below_set ?_ GE104.out | refine below_set ?_ GE116.out) | exact HB.out)) hb); clear HO103; clear HO107; clear HO112; clear HO115; clear HO120; clear BK104; clear BK116; clear HB; have HO103 := n0_; have HO107 := n1_; have HO112 := n2_; have HO115 := n3_; have HO120 := n4_; have HO124 := n5_; have BK104 := n6_; have BK116 := n7_; have HB := n8_; clear n0_ n1_ n2_ n3_ n4_ n5_ n6_ n7_ n8_; (try clear hb); (try clear hb2); (try clear hk); (try clear hi); (try clear ho0); have hcz29_0 : w28.cell? ⟨gb116, 0, none⟩ = some (.int .i64 t108) := (blk_cell BK116.out 0).trans rfl; have hcz29_1 : w28.cell? ⟨gb116, 1, none⟩ = some (.string t109) := (blk_cell BK116.out 1).trans rfl; have hcz29_2 : w28.cell? ⟨gb116, 2, none⟩ = some (.slice Ao25 t110.length co25) := (blk_cell BK116.out 2).trans rfl; have hcz29_3 : w28.cell? ⟨gb116, 3, none⟩ = some (.slice Ao26 t113.length co26) := (blk_cell BK116.out 3).trans rfl; have hfz29_0 := blk_frozen BK116.out 0; have hfz29_1 := blk_frozen BK116.out 1; have hfz29_2 := blk_frozen BK116.out 2; have hfz29_3 := blk_frozen BK116.out 3; have hcv30 := str_of_Q (P := Tryz.prog) Tryz.underlying33 Tryz.underlying5 Tryz.underlying9 HO115.out; obtain ⟨Ao31, co31, eo31⟩ := Kd.R_slice HO120.out; subst eo31; have p125 : 0 ≤ (0 : Int) := (by omega); have q125 : 0 < (t117.length : Int) := of_decide_eq_true (by first | (with_reducible assumption) | assumption); obtain ⟨ad125, e125, hx125_0, hx125_1⟩ := at_T56 (Kd.R_reads' HO120.out).2.2 0 p125 q125; cases e125; have qi125 : (0 < t117.length) = True := eq_true (by omega); (try rw [show ((0 : Int)).toNat = 0 from rfl] at hx125_0); (try rw [show 0 * 2 = 0 from rfl] at hx125_0); (try rw [Addr.add_zero'] at hx125_0); (try rw [show ((0 : Int)).toNat = 0 from rfl] at hx125_1); (try rw [show 0 * 2 = 0 from rfl] at hx125_1); (try rw [Addr.add_zero'] at hx125_1); replace p125 := eq_true p125; replace q125 := eq_true q125; have p126 : 0 ≤ (0 : Int) := (by omega); have q126 : 0 < (t117.length : Int) := of_decide_eq_true (by first | (with_reducible assumption) | assumption); obtain ⟨ad126, e126, hx126_0, hx126_1⟩ := at_T56 (Kd.R_reads' HO120.out).2.2 0 p126 q126; obtain rfl : ad125 = ad126 := (by injection e126); have qi126 : (0 < t117.length) = True := eq_true (by omega); (try rw [show ((0 : Int)).toNat = 0 from rfl] at hx126_0); (try rw [show 0 * 2 = 0 from rfl] at hx126_0); (try rw [Addr.add_zero'] at hx126_0); (try rw [show ((0 : Int)).toNat = 0 from rfl] at hx126_1); (try rw [show 0 * 2 = 0 from rfl] at hx126_1); (try rw [Addr.add_zero'] at hx126_1); replace p126 := eq_true p126; replace q126 := eq_true q126; have hcz32_0 : w28.cell? ⟨gb104, 0, none⟩ = some (.string (⟨#[71, 69, 84]⟩ : ByteArray)) := (blk_cell BK104.out 0).trans rfl; have hcz32_1 : w28.cell? ⟨gb104, 1, none⟩ = some (.string (⟨#[]⟩ : ByteArray)) := (blk_cell BK104.out 1).trans rfl; have hcz32_2 : w28.cell? ⟨gb104, 2, none⟩ = some (.slice Ao15 y101.length co15) := (blk_cell BK104.out 2).trans rfl; have hcz32_3 : w28.cell? ⟨gb104, 3, none⟩ = some (.slice none 0 0) := (blk_cell BK104.out 3).trans rfl; have hfz32_0 := blk_frozen BK104.out 0; have hfz32_1 := blk_frozen BK104.out 1; have hfz32_2 := blk_frozen BK104.out 2; have hfz32_3 := blk_frozen BK104.out 3) | (go_at_call 20; (refine (part_Strip.calls k (⟨#[71, 69, 84]⟩ : ByteArray) (⟨#[]⟩ : ByteArray) _ _ y101 _ _ ([] : List Int) t127 t128 t129 t132 _ ?side1 ?side2 ?side3 ?side4 A12.out).mono ?_); (case side1 => repeat (first | exact (Kd.R_reads' HO103.out).2.2 | (with_reducible refine Kd.C_alloc ?_ _) | (with_reducible refine Kd.C_drewN ?_ _) | (with_reducible refine Kd.C_drew ?_))); (case side2 => exact (Kd.R_reads' HO103.out).2.1); (case side3 => exact Kd.C_nil _ _); (case side4 => exact Nat.le_refl _); rintro e w33 ⟨v130, v133, rfl, ho0, ho1, hb⟩; have n0_ := Aside0.mk (Kd.R_elder' (by (with_reducible repeat (first | apply Kd.R_alloc | apply Kd.R_drewN | apply Kd.R_drew)); exact HO103.out) (Kd.R_base ho0) hb); have n1_ := Aside0.mk (Kd.R_elder' (by (with_reducible repeat (first | apply Kd.R_alloc | apply Kd.R_drewN | apply Kd.R_drew)); exact HO107.out) (Kd.R_base ho1) hb); have n2_ := Aside0.mk (Kd.R_elder' (by (with_reducible repeat (first | apply Kd.R_alloc | apply Kd.R_drewN | apply Kd.R_drew)); exact HO112.out) (Kd.R_base ho0) hb); have n3_ := Aside0.mk (Kd.Q_elder' (by (with_reducible repeat (first | apply Kd.Q_alloc | apply Kd.Q_drewN | apply Kd.Q_drew)); exact HO115.out) (Kd.R_base ho1) hb); have n4_ := Aside0.mk (Kd.R_below (by (with_reducible repeat (first | apply Kd.R_alloc | apply Kd.R_drewN | apply Kd.R_drew)); exact HO120.out) hb); have n5_ := Aside0.mk (Kd.R_below (by (with_reducible repeat (first | apply Kd.R_alloc | apply Kd.R_drewN | apply Kd.R_drew)); exact HO124.out) hb); have n6_ := Aside0.mk (Kd.R_lower (Kd.R_new' (Kd.R_new' ho0 (Kd.R_lt (by (with_reducible repeat (first | apply Kd.R_alloc | apply Kd.R_drewN | apply Kd.R_drew)); exact HO103.out))) (Kd.R_lt (by (with_reducible repeat (first | apply Kd.R_alloc | apply Kd.R_drewN | apply Kd.R_drew)); exact HO112.out))) (below_size (by repeat (first | (with_reducible first | exact HB.out | apply below_alloc | apply pw_below_drewN | apply below_drew1 | refine below_set ?_ GE104.out | refine below_set ?_ GE116.out) | exact HB.out)))); have n7_ := Aside0.mk (Kd.R_lower (Kd.R_new' (Kd.R_new' ho1 (Kd.R_lt (by (with_reducible repeat (first | apply Kd.R_alloc | apply Kd.R_drewN | apply Kd.R_drew)); exact HO107.out))) (Kd.Q_lt (by (with_reducible repeat (first | apply Kd.Q_alloc | apply Kd.Q_drewN | apply Kd.Q_drew)); exact HO115.out))) (below_size (by repeat (first | (with_reducible first | exact HB.out | apply below_alloc | apply pw_below_drewN | apply below_drew1 | refine below_set ?_ GE104.out | refine below_set ?_ GE116.out) | exact HB.out)))); have n8_ := Aside0.mk (blk_below (g := gb104) (o := .cells #[.string (⟨#[71, 69, 84]⟩ : ByteArray), .string (⟨#[]⟩ : ByteArray), .slice Ao15 y101.length co15, .slice none 0 0] 35 (0, 0)) (by (with_reducible repeat (first | refine blk_drewN ?_ _ | refine blk_drew ?_ | refine blk_alloc ?_ _)); exact BK104.out) hb); have n9_ := Aside0.mk (blk_below (g := gb116) (o := .cells #[.int .i64 t108, .string t109, .slice Ao25 t110.length co25, .slice Ao26 t113.length co26] 37 (0, 0)) (by (with_reducible repeat (first | refine blk_drewN ?_ _ | refine blk_drew ?_ | refine blk_alloc ?_ _)); exact BK116.out) hb); have n10_ := Aside0.mk (below_step (by repeat (first | (with_reducible first | exact HB.out | apply below_alloc | apply pw_below_drewN | apply below_drew1 | refine below_set ?_ GE104.out | refine below_set ?_ GE116.out) | exact HB.out)) hb); clear HO103; clear HO107; clear HO112; clear HO115; clear HO120; clear HO124; clear BK104; clear BK116; clear HB; have HO103 := n0_; have HO107 := n1_; have HO112 := n2_; have HO115 := n3_; have HO120 := n4_; have HO124 := n5_; have HO131 := n6_; have HO134 := n7_; have BK104 := n8_; have BK116 := n9_; have HB := n10_; clear n0_ n1_ n2_ n3_ n4_ n5_ n6_ n7_ n8_ n9_ n10_; (try clear hb); (try clear hb2); (try clear hk); (try clear hi); (try clear ho0); (try clear ho1); obtain ⟨Ao34, co34, eo34⟩ := Kd.R_slice HO131.out; subst eo34; obtain ⟨Ao_s, co_s, eo_s⟩ := Kd.R_slice HO134.out; subst eo_s))
                  go_ret
                  exact ⟨by first | rfl | (simp [errW_none, errW_some] <;> rfl) | (simp [*, errW_none, errW_some] <;> rfl), by repeat (first | (with_reducible first | exact HB.out | apply below_alloc | apply pw_below_drewN | apply below_drew1 | refine below_set ?_ GE104.out | refine below_set ?_ GE116.out) | exact HB.out)⟩
                · rw [if_neg c11] at H
                  have c11b0 : (t122 == 121) = false := beq_eq_false_iff_ne.mpr c11
                  have c11b1 : (t122 != 121) = true := bne_iff_ne.mpr c11
                  exact absurd ((Option.some.inj H).trans hr) (by decide)
              · rw [if_neg c10] at H
                have c10b0 : (((rd_T56 t117 0).f1) == 5) = false := beq_eq_false_iff_ne.mpr c10
                have c10b1 : (((rd_T56 t117 0).f1) != 5) = true := bne_iff_ne.mpr c10
                exact absurd ((Option.some.inj H).trans hr) (by decide)
            · rw [if_neg c9] at H
              have c9b0 : (((rd_T56 t117 0).f0) == 3) = false := beq_eq_false_iff_ne.mpr c9
              have c9b1 : (((rd_T56 t117 0).f0) != 3) = true := bne_iff_ne.mpr c9
              exact absurd ((Option.some.inj H).trans hr) (by decide)
          · rw [if_neg c8] at H
            exact absurd H (by simp)
        · rw [if_neg c7] at H
          have c7b0 : ((t117.length : Int) == 1) = false := beq_eq_false_iff_ne.mpr c7
          have c7b1 : ((t117.length : Int) != 1) = true := bne_iff_ne.mpr c7
          exact absurd ((Option.some.inj H).trans hr) (by decide)
      · rw [if_neg c6] at H
        have c6b0 : (t118 == 0) = false := beq_eq_false_iff_ne.mpr c6
        have c6b1 : (t118 != 0) = true := bne_iff_ne.mpr c6
        exact absurd ((Option.some.inj H).trans hr) (by decide)
    · rw [if_neg c5] at H
      have c5b0 : ((strOfNums t113).toList == ([97, 98, 99, 100] : List UInt8)) = false := beq_eq_false_iff_ne.mpr c5
      have c5b1 : ((strOfNums t113).toList != ([97, 98, 99, 100] : List UInt8)) = true := bne_iff_ne.mpr c5
      exact absurd ((Option.some.inj H).trans hr) (by decide)
  · rw [if_neg c4] at H
    have c4b0 : (t108 == 206) = false := beq_eq_false_iff_ne.mpr c4
    have c4b1 : (t108 != 206) = true := bne_iff_ne.mpr c4
    exact absurd ((Option.some.inj H).trans hr) (by decide)
/-- known says true (the kernel reckons it). -/
def knownT.f : Option Bool := some true
set_option maxRecDepth 100000 in
theorem knownT.calls (r : Bool) (w : World) (h : knownT.f = some r) : Calls Tryz.prog 8 #[] w fun e w' => e = .returned (.bool r) ∧ Below w.heap.size w w' := by
  obtain rfl := Option.some.inj h
  exact ambrylaw25_known.calls 20 true rfl w (by kernel_rfl)
end Go.Proofs.YtacgmcmnnogbbaaGreatDoor.PX

namespace Go.Proofs.YtacgmcmnnogbbaaGreatDoor.PX
open Go.RowKit Go.Proofs.YtacgmcmnnogbbaaGreatDoorW.PrintWords Go.Proofs.YtacgmcmnnogbbaaGreatDoorW.PrintLast Go.Proofs.YtacgmcmnnogbbaaGreatDoorW.PrintMore
attribute [local go_sem] max2_int min2_int max_two min_two max_three min_three max_four min_four
set_option linter.unusedVariables false
set_option linter.unusedSimpArgs false
def ambrylaw25_PartReads.j0 : Nat → ByteArray → Int → List (S56) → Bool → Option (Bool)
 | 0, _, _, _, _ => none
 | k + 1, x0, x1, x2, x20 => if x20 = true then (some true) else ((part_Parse.f k x0 x1).bind fun bt102 => ((ambryref23_Spans.f k x0 x1).bind fun bt106 => (if bt102.2 = bt106.2 then ((ambrylaw25_same.f k bt102.1 bt106.1).bind fun t110 => (if t110 = true then ((part_Join.f k x2).bind fun t111 => ((ambryref23_Join.f k x2).bind fun t114 => ((ambrylaw25_same.f k t111 t114).bind fun t117 => (some t117)))) else (some false))) else (some false))))
def ambrylaw25_PartReads.f (k : Nat) (a0 : ByteArray) (a1 : Int) (l2 : List (S56)) : Option (Bool) := (knownT.f).bind fun t101 => (if t101 = true then (if (a0.size : Int) > 300 then (ambrylaw25_PartReads.j0 k a0 a1 l2 true) else (ambrylaw25_PartReads.j0 k a0 a1 l2 (decide ((l2.length : Int) > 30)))) else (some false))
set_option maxHeartbeats 8000000 in
set_option maxRecDepth 100000 in
theorem ambrylaw25_PartReads.calls (k : Nat) (a0 : ByteArray) (a1 : Int) (A2 : Option Addr) (c2 : Nat) (l2 : List (S56)) (r : Bool) (w : World) (hr2 : Kd.C k56 w A2 l2.length l2) (hc2 : l2.length ≤ c2) (h : ambrylaw25_PartReads.f k a0 a1 l2 = some r) :
  Calls Tryz.prog 3 #[.string a0, .int .i64 a1, .slice A2 l2.length c2] w fun e w' => e = .returned (.bool r) ∧ Below w.heap.size w w' := by
 have HR2 := Aside0.mk hr2
 have HC2 := Aside0.mk hc2
 clear hr2 hc2
 have HB := Aside0.mk (Below.refl w.heap.size w)
 have H : ((knownT.f).bind fun t101 => (if t101 = true then (if (a0.size : Int) > 300 then (ambrylaw25_PartReads.j0 k a0 a1 l2 true) else (ambrylaw25_PartReads.j0 k a0 a1 l2 (decide ((l2.length : Int) > 30)))) else (some false))) = some r := h
 clear h
 replace H := Option.bind_eq_some_iff.mp H
 obtain ⟨t101, A40, H⟩ := H
 replace H : (if t101 = true then (if (a0.size : Int) > 300 then (ambrylaw25_PartReads.j0 k a0 a1 l2 true) else (ambrylaw25_PartReads.j0 k a0 a1 l2 (decide ((l2.length : Int) > 30)))) else (some false)) = some r := H
 have A4 := Aside0.mk A40
 clear A40
 by_cases c5 : t101 = true
 ·subst c5
  have H1 : (if (a0.size : Int) > 300 then (ambrylaw25_PartReads.j0 k a0 a1 l2 true) else (ambrylaw25_PartReads.j0 k a0 a1 l2 (decide ((l2.length : Int) > 30)))) = some r := by rw [if_pos rfl] at H; exact H
  clear H
  have H := H1
  clear H1
  have HC6 := Aside0.mk H
  clear H
  go_enter Tryz.func3, Tryz.ntmps3
  go_upto_region 3 with (first | ((with_reducible refine gate_callee (f := 8) rfl ?_); refine goesL_ (some 11) rfl rfl Tryz.func8 (by kernel_rfl) rfl #[] rfl (by (try simp only [List.map_toArray, List.map_cons, List.map_nil]); first | done | rfl | (simp only [List.length_drop, List.length_take]; rfl)) ?_; (with_reducible refine (knownT.calls true _ A4.out).mono ?_); rintro e w7 ⟨rfl, hb⟩; refine ⟨_, rfl, ?_⟩; have n0_ := Aside0.mk (below_step (by repeat (first | (with_reducible first | exact HB.out | apply below_alloc | apply pw_below_drewN | apply below_drew1) | exact HB.out)) hb); clear HB; have HB := n0_; clear n0_; (try clear hb); (try clear hb2); (try clear hk); (try clear hi)))
  (try simp only [Act.put, List.setIfInBounds_toArray, List.set_cons_zero, List.set_cons_succ])
  go_cut [20] (fun v20 wc => ∃ (kq : Nat) (x20_5 : Bool), v20 = .bool x20_5 ∧ Aside0 (ambrylaw25_PartReads.j0 kq a0 a1 l2 x20_5 = some r) ∧ Aside0 (kq ≤ k) ∧ Aside0 (Below w.heap.size w wc))
  case first =>
   have H := HC6.out
   clear HC6
   by_cases c8 : (a0.size : Int) > 300
   ·rw [if_pos c8] at H
    have c8b0 : decide (300 < (a0.size : Int)) = true := decide_eq_true c8
    have c8b1 : decide (300 < a0.size) = true := decide_eq_true (by omega)
    clear c8
    (first | rw [c8b0] | (simp only [i64_w, i32_w]; rw [c8b0]) | skip)
    have H' := Aside0.mk H
    clear H
    go_wp2
    go_meet
    case rel => exact ⟨_, (true), (by first | rfl | (simp; done) | (simp [*]; done)), H', ⟨by first | omega | exact Nat.le_refl _⟩, ⟨by repeat (first | (with_reducible first | exact HB.out | apply below_alloc | apply pw_below_drewN | apply below_drew1) | exact HB.out)⟩⟩
   ·rw [if_neg c8] at H
    have c8b0 : decide (300 < (a0.size : Int)) = false := decide_eq_false c8
    have c8b1 : decide (300 < a0.size) = false := decide_eq_false (by omega)
    clear c8
    (first | rw [c8b0] | (simp only [i64_w, i32_w]; rw [c8b0]) | skip)
    have H' := Aside0.mk H
    clear H
    go_wp2
    go_meet
    case rel => exact ⟨_, (decide ((l2.length : Int) > 30)), (by first | rfl | (simp; done) | (simp [*]; done)), H', ⟨by first | omega | exact Nat.le_refl _⟩, ⟨by repeat (first | (with_reducible first | exact HB.out | apply below_alloc | apply pw_below_drewN | apply below_drew1) | exact HB.out)⟩⟩
  case rest =>
   clear HC6
   try clear c2
   try clear p2
   try clear c3
   try clear c5
   try clear c8
   try clear c8b0
   try clear c8b1
   obtain ⟨kq, x20_5, rfl, HA, HJ5, HB⟩ := hcut
   cases kq with
   | zero => exact absurd HA.out (by simp [ambrylaw25_PartReads.j0])
   | succ kj5 =>
    have H := HA.out
    clear HA
    simp only [ambrylaw25_PartReads.j0] at H
    by_cases c9 : x20_5 = true
    ·subst c9
     have H1 : (some true) = some r := by rw [if_pos rfl] at H; exact H
     clear H
     have H := H1
     clear H1
     obtain rfl := Option.some.inj H
     go_wp2
     go_ret
     exact ⟨by first | rfl | (simp [errW_none, errW_some] <;> rfl) | (simp [*, errW_none, errW_some] <;> rfl), by repeat (first | (with_reducible first | exact HB.out | apply below_alloc | apply pw_below_drewN | apply below_drew1) | exact HB.out)⟩
    ·replace c9 := Bool.eq_false_iff.mpr c9
     subst c9
     have H1 : ((part_Parse.f kj5 a0 a1).bind fun bt102 => ((ambryref23_Spans.f kj5 a0 a1).bind fun bt106 => (if bt102.2 = bt106.2 then ((ambrylaw25_same.f kj5 bt102.1 bt106.1).bind fun t110 => (if t110 = true then ((part_Join.f kj5 l2).bind fun t111 => ((ambryref23_Join.f kj5 l2).bind fun t114 => ((ambrylaw25_same.f kj5 t111 t114).bind fun t117 => (some t117)))) else (some false))) else (some false)))) = some r := by rw [if_neg (show ¬ (false = true) by decide)] at H; exact H
     clear H
     have H := H1
     clear H1
     replace H := Option.bind_eq_some_iff.mp H
     obtain ⟨⟨t102, t103⟩, A100, H⟩ := H
     replace H : ((ambryref23_Spans.f kj5 a0 a1).bind fun bt106 => (if t103 = bt106.2 then ((ambrylaw25_same.f kj5 t102 bt106.1).bind fun t110 => (if t110 = true then ((part_Join.f kj5 l2).bind fun t111 => ((ambryref23_Join.f kj5 l2).bind fun t114 => ((ambrylaw25_same.f kj5 t111 t114).bind fun t117 => (some t117)))) else (some false))) else (some false))) = some r := H
     have A10 := Aside0.mk A100
     clear A100
     replace H := Option.bind_eq_some_iff.mp H
     obtain ⟨⟨t106, t107⟩, A110, H⟩ := H
     replace H : (if t103 = t107 then ((ambrylaw25_same.f kj5 t102 t106).bind fun t110 => (if t110 = true then ((part_Join.f kj5 l2).bind fun t111 => ((ambryref23_Join.f kj5 l2).bind fun t114 => ((ambrylaw25_same.f kj5 t111 t114).bind fun t117 => (some t117)))) else (some false))) else (some false)) = some r := H
     have A11 := Aside0.mk A110
     clear A110
     by_cases c12 : t103 = t107
     ·rw [if_pos c12] at H
      have c12b0 : (t103 == t107) = true := beq_iff_eq.mpr c12
      have c12b1 : (t103 != t107) = false := bne_eq_false_iff_eq.mpr c12
      clear c12
      replace H := Option.bind_eq_some_iff.mp H
      obtain ⟨t110, A130, H⟩ := H
      replace H : (if t110 = true then ((part_Join.f kj5 l2).bind fun t111 => ((ambryref23_Join.f kj5 l2).bind fun t114 => ((ambrylaw25_same.f kj5 t111 t114).bind fun t117 => (some t117)))) else (some false)) = some r := H
      have A13 := Aside0.mk A130
      clear A130
      by_cases c14 : t110 = true
      ·subst c14
       have H1 : ((part_Join.f kj5 l2).bind fun t111 => ((ambryref23_Join.f kj5 l2).bind fun t114 => ((ambrylaw25_same.f kj5 t111 t114).bind fun t117 => (some t117)))) = some r := by rw [if_pos rfl] at H; exact H
       clear H
       have H := H1
       clear H1
       replace H := Option.bind_eq_some_iff.mp H
       obtain ⟨t111, A150, H⟩ := H
       replace H : ((ambryref23_Join.f kj5 l2).bind fun t114 => ((ambrylaw25_same.f kj5 t111 t114).bind fun t117 => (some t117))) = some r := H
       have A15 := Aside0.mk A150
       clear A150
       replace H := Option.bind_eq_some_iff.mp H
       obtain ⟨t114, A160, H⟩ := H
       replace H : ((ambrylaw25_same.f kj5 t111 t114).bind fun t117 => (some t117)) = some r := H
       have A16 := Aside0.mk A160
       clear A160
       replace H := Option.bind_eq_some_iff.mp H
       obtain ⟨t117, A170, H⟩ := H
       replace H : (some t117) = some r := H
       have A17 := Aside0.mk A170
       clear A170
       obtain rfl := Option.some.inj H
       go_wp2_with (first | ((with_reducible refine gate_callee (f := 9) rfl ?_); refine goesL_ (some 24) rfl rfl Tryz.func9 (by kernel_rfl) rfl #[.string a0, .int .i64 a1] rfl (by (try simp only [List.map_toArray, List.map_cons, List.map_nil]); first | done | rfl | (simp only [List.length_drop, List.length_take]; rfl)) ?_; (with_reducible refine (part_Parse.calls kj5 a0 a1 t102 t103 _ A10.out).mono ?_); rintro e w18 ⟨v104, rfl, ho0, hb⟩; refine ⟨_, rfl, ?_⟩; have n0_ := Aside0.mk (Kd.R_lower ho0 (below_size (by repeat (first | (with_reducible first | exact HB.out | apply below_alloc | apply pw_below_drewN | apply below_drew1) | exact HB.out)))); have n1_ := Aside0.mk (below_step (by repeat (first | (with_reducible first | exact HB.out | apply below_alloc | apply pw_below_drewN | apply below_drew1) | exact HB.out)) hb); clear HB; have HO105 := n0_; have HB := n1_; clear n0_ n1_; (try clear hb); (try clear hb2); (try clear hk); (try clear hi); (try clear ho0)) | ((with_reducible refine gate_callee (f := 10) rfl ?_); refine goesL_ (some 30) rfl rfl Tryz.func10 (by kernel_rfl) rfl #[.string a0, .int .i64 a1] rfl (by (try simp only [List.map_toArray, List.map_cons, List.map_nil]); first | done | rfl | (simp only [List.length_drop, List.length_take]; rfl)) ?_; (with_reducible refine (ambryref23_Spans.calls kj5 a0 a1 t106 t107 _ A11.out).mono ?_); rintro e w19 ⟨v108, rfl, ho0, hb⟩; refine ⟨_, rfl, ?_⟩; have n0_ := Aside0.mk (Kd.R_elder' (by (with_reducible repeat (first | apply Kd.R_alloc | apply Kd.R_drewN | apply Kd.R_drew)); exact HO105.out) (Kd.R_base ho0) hb); have n1_ := Aside0.mk (Kd.R_lower (Kd.R_new' ho0 (Kd.R_lt (by (with_reducible repeat (first | apply Kd.R_alloc | apply Kd.R_drewN | apply Kd.R_drew)); exact HO105.out))) (below_size (by repeat (first | (with_reducible first | exact HB.out | apply below_alloc | apply pw_below_drewN | apply below_drew1) | exact HB.out)))); have n2_ := Aside0.mk (below_step (by repeat (first | (with_reducible first | exact HB.out | apply below_alloc | apply pw_below_drewN | apply below_drew1) | exact HB.out)) hb); clear HO105; clear HB; have HO105 := n0_; have HO109 := n1_; have HB := n2_; clear n0_ n1_ n2_; (try clear hb); (try clear hb2); (try clear hk); (try clear hi); (try clear ho0); obtain ⟨Ao20, co20, eo20⟩ := Kd.R_slice HO105.out; subst eo20; obtain ⟨Ao21, co21, eo21⟩ := Kd.R_slice HO109.out; subst eo21) | (go_at_call 11; (with_reducible refine (ambrylaw25_same.calls kj5 _ _ t102 _ _ t106 true _ ?side1 ?side2 ?side3 ?side4 A13.out).mono ?_); (case side1 => repeat (first | exact (Kd.R_reads' HO105.out).2.2 | (with_reducible refine Kd.C_alloc ?_ _) | (with_reducible refine Kd.C_drewN ?_ _) | (with_reducible refine Kd.C_drew ?_))); (case side2 => exact (Kd.R_reads' HO105.out).2.1); (case side3 => repeat (first | exact (Kd.R_reads' HO109.out).2.2 | (with_reducible refine Kd.C_alloc ?_ _) | (with_reducible refine Kd.C_drewN ?_ _) | (with_reducible refine Kd.C_drew ?_))); (case side4 => exact (Kd.R_reads' HO109.out).2.1); rintro e w' ⟨rfl, ⟨nd, rfl⟩⟩) | (go_at_call 12; (with_reducible refine (part_Join.calls kj5 _ _ l2 t111 _ ?side1 ?side2 A15.out).mono ?_); (case side1 => repeat (first | exact (Kd.C_below HR2.out (by repeat (first | (with_reducible first | exact HB.out | apply below_alloc | apply pw_below_drewN | apply below_drew1) | exact HB.out))) | (with_reducible refine Kd.C_alloc ?_ _) | (with_reducible refine Kd.C_drewN ?_ _) | (with_reducible refine Kd.C_drew ?_))); (case side2 => exact HC2.out); rintro e w22 ⟨v112, rfl, ho0, hb⟩; have n0_ := Aside0.mk (Kd.R_elder' (by (with_reducible repeat (first | apply Kd.R_alloc | apply Kd.R_drewN | apply Kd.R_drew)); exact HO105.out) (Kd.R_base ho0) hb); have n1_ := Aside0.mk (Kd.R_elder' (by (with_reducible repeat (first | apply Kd.R_alloc | apply Kd.R_drewN | apply Kd.R_drew)); exact HO109.out) (Kd.R_base ho0) hb); have n2_ := Aside0.mk (Kd.R_lower (Kd.R_new' (Kd.R_new' ho0 (Kd.R_lt (by (with_reducible repeat (first | apply Kd.R_alloc | apply Kd.R_drewN | apply Kd.R_drew)); exact HO105.out))) (Kd.R_lt (by (with_reducible repeat (first | apply Kd.R_alloc | apply Kd.R_drewN | apply Kd.R_drew)); exact HO109.out))) (below_size (by repeat (first | (with_reducible first | exact HB.out | apply below_alloc | apply pw_below_drewN | apply below_drew1) | exact HB.out)))); have n3_ := Aside0.mk (below_step (by repeat (first | (with_reducible first | exact HB.out | apply below_alloc | apply pw_below_drewN | apply below_drew1) | exact HB.out)) hb); clear HO105; clear HO109; clear HB; have HO105 := n0_; have HO109 := n1_; have HO113 := n2_; have HB := n3_; clear n0_ n1_ n2_ n3_; (try clear hb); (try clear hb2); (try clear hk); (try clear hi); (try clear ho0)) | (go_at_call 13; (with_reducible refine (ambryref23_Join.calls kj5 _ _ l2 t114 _ ?side1 ?side2 A16.out).mono ?_); (case side1 => repeat (first | exact (Kd.C_below HR2.out HB.out) | (with_reducible refine Kd.C_alloc ?_ _) | (with_reducible refine Kd.C_drewN ?_ _) | (with_reducible refine Kd.C_drew ?_))); (case side2 => exact HC2.out); rintro e w23 ⟨v115, rfl, ho0, hb⟩; have n0_ := Aside0.mk (Kd.R_elder' (by (with_reducible repeat (first | apply Kd.R_alloc | apply Kd.R_drewN | apply Kd.R_drew)); exact HO105.out) (Kd.R_base ho0) hb); have n1_ := Aside0.mk (Kd.R_elder' (by (with_reducible repeat (first | apply Kd.R_alloc | apply Kd.R_drewN | apply Kd.R_drew)); exact HO109.out) (Kd.R_base ho0) hb); have n2_ := Aside0.mk (Kd.R_elder' (by (with_reducible repeat (first | apply Kd.R_alloc | apply Kd.R_drewN | apply Kd.R_drew)); exact HO113.out) (Kd.R_base ho0) hb); have n3_ := Aside0.mk (Kd.R_lower (Kd.R_new' (Kd.R_new' (Kd.R_new' ho0 (Kd.R_lt (by (with_reducible repeat (first | apply Kd.R_alloc | apply Kd.R_drewN | apply Kd.R_drew)); exact HO105.out))) (Kd.R_lt (by (with_reducible repeat (first | apply Kd.R_alloc | apply Kd.R_drewN | apply Kd.R_drew)); exact HO109.out))) (Kd.R_lt (by (with_reducible repeat (first | apply Kd.R_alloc | apply Kd.R_drewN | apply Kd.R_drew)); exact HO113.out))) (below_size (by repeat (first | (with_reducible first | exact HB.out | apply below_alloc | apply pw_below_drewN | apply below_drew1) | exact HB.out)))); have n4_ := Aside0.mk (below_step (by repeat (first | (with_reducible first | exact HB.out | apply below_alloc | apply pw_below_drewN | apply below_drew1) | exact HB.out)) hb); clear HO105; clear HO109; clear HO113; clear HB; have HO105 := n0_; have HO109 := n1_; have HO113 := n2_; have HO116 := n3_; have HB := n4_; clear n0_ n1_ n2_ n3_ n4_; (try clear hb); (try clear hb2); (try clear hk); (try clear hi); (try clear ho0); obtain ⟨Ao24, co24, eo24⟩ := Kd.R_slice HO113.out; subst eo24; obtain ⟨Ao25, co25, eo25⟩ := Kd.R_slice HO116.out; subst eo25) | (go_at_call 11; (with_reducible refine (ambrylaw25_same.calls kj5 _ _ t111 _ _ t114 t117 _ ?side1 ?side2 ?side3 ?side4 A17.out).mono ?_); (case side1 => repeat (first | exact (Kd.R_reads' HO113.out).2.2 | (with_reducible refine Kd.C_alloc ?_ _) | (with_reducible refine Kd.C_drewN ?_ _) | (with_reducible refine Kd.C_drew ?_))); (case side2 => exact (Kd.R_reads' HO113.out).2.1); (case side3 => repeat (first | exact (Kd.R_reads' HO116.out).2.2 | (with_reducible refine Kd.C_alloc ?_ _) | (with_reducible refine Kd.C_drewN ?_ _) | (with_reducible refine Kd.C_drew ?_))); (case side4 => exact (Kd.R_reads' HO116.out).2.1); rintro e w' ⟨rfl, ⟨nd, rfl⟩⟩))
       go_ret
       exact ⟨by first | rfl | (simp [errW_none, errW_some] <;> rfl) | (simp [*, errW_none, errW_some] <;> rfl), by repeat (first | (with_reducible first | exact HB.out | apply below_alloc | apply pw_below_drewN | apply below_drew1) | exact HB.out)⟩
      ·replace c14 := Bool.eq_false_iff.mpr c14
       subst c14
       have H1 : (some false) = some r := by rw [if_neg (show ¬ (false = true) by decide)] at H; exact H
       clear H
       have H := H1
       clear H1
       obtain rfl := Option.some.inj H
       go_wp2_with (first | ((with_reducible refine gate_callee (f := 9) rfl ?_); refine goesL_ (some 24) rfl rfl Tryz.func9 (by kernel_rfl) rfl #[.string a0, .int .i64 a1] rfl (by (try simp only [List.map_toArray, List.map_cons, List.map_nil]); first | done | rfl | (simp only [List.length_drop, List.length_take]; rfl)) ?_; (with_reducible refine (part_Parse.calls kj5 a0 a1 t102 t103 _ A10.out).mono ?_); rintro e w26 ⟨v104, rfl, ho0, hb⟩; refine ⟨_, rfl, ?_⟩; have n0_ := Aside0.mk (Kd.R_lower ho0 (below_size (by repeat (first | (with_reducible first | exact HB.out | apply below_alloc | apply pw_below_drewN | apply below_drew1) | exact HB.out)))); have n1_ := Aside0.mk (below_step (by repeat (first | (with_reducible first | exact HB.out | apply below_alloc | apply pw_below_drewN | apply below_drew1) | exact HB.out)) hb); clear HB; have HO105 := n0_; have HB := n1_; clear n0_ n1_; (try clear hb); (try clear hb2); (try clear hk); (try clear hi); (try clear ho0)) | ((with_reducible refine gate_callee (f := 10) rfl ?_); refine goesL_ (some 30) rfl rfl Tryz.func10 (by kernel_rfl) rfl #[.string a0, .int .i64 a1] rfl (by (try simp only [List.map_toArray, List.map_cons, List.map_nil]); first | done | rfl | (simp only [List.length_drop, List.length_take]; rfl)) ?_; (with_reducible refine (ambryref23_Spans.calls kj5 a0 a1 t106 t107 _ A11.out).mono ?_); rintro e w27 ⟨v108, rfl, ho0, hb⟩; refine ⟨_, rfl, ?_⟩; have n0_ := Aside0.mk (Kd.R_elder' (by (with_reducible repeat (first | apply Kd.R_alloc | apply Kd.R_drewN | apply Kd.R_drew)); exact HO105.out) (Kd.R_base ho0) hb); have n1_ := Aside0.mk (Kd.R_lower (Kd.R_new' ho0 (Kd.R_lt (by (with_reducible repeat (first | apply Kd.R_alloc | apply Kd.R_drewN | apply Kd.R_drew)); exact HO105.out))) (below_size (by repeat (first | (with_reducible first | exact HB.out | apply below_alloc | apply pw_below_drewN | apply below_drew1) | exact HB.out)))); have n2_ := Aside0.mk (below_step (by repeat (first | (with_reducible first | exact HB.out | apply below_alloc | apply pw_below_drewN | apply below_drew1) | exact HB.out)) hb); clear HO105; clear HB; have HO105 := n0_; have HO109 := n1_; have HB := n2_; clear n0_ n1_ n2_; (try clear hb); (try clear hb2); (try clear hk); (try clear hi); (try clear ho0); obtain ⟨Ao28, co28, eo28⟩ := Kd.R_slice HO105.out; subst eo28; obtain ⟨Ao29, co29, eo29⟩ := Kd.R_slice HO109.out; subst eo29) | (go_at_call 11; (with_reducible refine (ambrylaw25_same.calls kj5 _ _ t102 _ _ t106 false _ ?side1 ?side2 ?side3 ?side4 A13.out).mono ?_); (case side1 => repeat (first | exact (Kd.R_reads' HO105.out).2.2 | (with_reducible refine Kd.C_alloc ?_ _) | (with_reducible refine Kd.C_drewN ?_ _) | (with_reducible refine Kd.C_drew ?_))); (case side2 => exact (Kd.R_reads' HO105.out).2.1); (case side3 => repeat (first | exact (Kd.R_reads' HO109.out).2.2 | (with_reducible refine Kd.C_alloc ?_ _) | (with_reducible refine Kd.C_drewN ?_ _) | (with_reducible refine Kd.C_drew ?_))); (case side4 => exact (Kd.R_reads' HO109.out).2.1); rintro e w' ⟨rfl, ⟨nd, rfl⟩⟩))
       go_ret
       exact ⟨by first | rfl | (simp [errW_none, errW_some] <;> rfl) | (simp [*, errW_none, errW_some] <;> rfl), by repeat (first | (with_reducible first | exact HB.out | apply below_alloc | apply pw_below_drewN | apply below_drew1) | exact HB.out)⟩
     ·rw [if_neg c12] at H
      have c12b0 : (t103 == t107) = false := beq_eq_false_iff_ne.mpr c12
      have c12b1 : (t103 != t107) = true := bne_iff_ne.mpr c12
      obtain rfl := Option.some.inj H
      go_wp2_with (first | ((with_reducible refine gate_callee (f := 9) rfl ?_); refine goesL_ (some 24) rfl rfl Tryz.func9 (by kernel_rfl) rfl #[.string a0, .int .i64 a1] rfl (by (try simp only [List.map_toArray, List.map_cons, List.map_nil]); first | done | rfl | (simp only [List.length_drop, List.length_take]; rfl)) ?_; (with_reducible refine (part_Parse.calls kj5 a0 a1 t102 t103 _ A10.out).mono ?_); rintro e w30 ⟨v104, rfl, ho0, hb⟩; refine ⟨_, rfl, ?_⟩; have n0_ := Aside0.mk (Kd.R_lower ho0 (below_size (by repeat (first | (with_reducible first | exact HB.out | apply below_alloc | apply pw_below_drewN | apply below_drew1) | exact HB.out)))); have n1_ := Aside0.mk (below_step (by repeat (first | (with_reducible first | exact HB.out | apply below_alloc | apply pw_below_drewN | apply below_drew1) | exact HB.out)) hb); clear HB; have HO105 := n0_; have HB := n1_; clear n0_ n1_; (try clear hb); (try clear hb2); (try clear hk); (try clear hi); (try clear ho0)) | ((with_reducible refine gate_callee (f := 10) rfl ?_); refine goesL_ (some 30) rfl rfl Tryz.func10 (by kernel_rfl) rfl #[.string a0, .int .i64 a1] rfl (by (try simp only [List.map_toArray, List.map_cons, List.map_nil]); first | done | rfl | (simp only [List.length_drop, List.length_take]; rfl)) ?_; (with_reducible refine (ambryref23_Spans.calls kj5 a0 a1 t106 t107 _ A11.out).mono ?_); rintro e w31 ⟨v108, rfl, ho0, hb⟩; refine ⟨_, rfl, ?_⟩; have n0_ := Aside0.mk (Kd.R_elder' (by (with_reducible repeat (first | apply Kd.R_alloc | apply Kd.R_drewN | apply Kd.R_drew)); exact HO105.out) (Kd.R_base ho0) hb); have n1_ := Aside0.mk (Kd.R_lower (Kd.R_new' ho0 (Kd.R_lt (by (with_reducible repeat (first | apply Kd.R_alloc | apply Kd.R_drewN | apply Kd.R_drew)); exact HO105.out))) (below_size (by repeat (first | (with_reducible first | exact HB.out | apply below_alloc | apply pw_below_drewN | apply below_drew1) | exact HB.out)))); have n2_ := Aside0.mk (below_step (by repeat (first | (with_reducible first | exact HB.out | apply below_alloc | apply pw_below_drewN | apply below_drew1) | exact HB.out)) hb); clear HO105; clear HB; have HO105 := n0_; have HO109 := n1_; have HB := n2_; clear n0_ n1_ n2_; (try clear hb); (try clear hb2); (try clear hk); (try clear hi); (try clear ho0)))
      go_ret
      exact ⟨by first | rfl | (simp [errW_none, errW_some] <;> rfl) | (simp [*, errW_none, errW_some] <;> rfl), by repeat (first | (with_reducible first | exact HB.out | apply below_alloc | apply pw_below_drewN | apply below_drew1) | exact HB.out)⟩
 ·replace c5 := Bool.eq_false_iff.mpr c5
  subst c5
  have H1 : (some false) = some r := by rw [if_neg (show ¬ (false = true) by decide)] at H; exact H
  clear H
  have H := H1
  clear H1
  obtain rfl := Option.some.inj H
  go_enter Tryz.func3, Tryz.ntmps3
  go_wp2_with (first | ((with_reducible refine gate_callee (f := 8) rfl ?_); refine goesL_ (some 11) rfl rfl Tryz.func8 (by kernel_rfl) rfl #[] rfl (by (try simp only [List.map_toArray, List.map_cons, List.map_nil]); first | done | rfl | (simp only [List.length_drop, List.length_take]; rfl)) ?_; (with_reducible refine (knownT.calls false _ A4.out).mono ?_); rintro e w32 ⟨rfl, hb⟩; refine ⟨_, rfl, ?_⟩; have n0_ := Aside0.mk (below_step (by repeat (first | (with_reducible first | exact HB.out | apply below_alloc | apply pw_below_drewN | apply below_drew1) | exact HB.out)) hb); clear HB; have HB := n0_; clear n0_; (try clear hb); (try clear hb2); (try clear hk); (try clear hi)))
  go_ret
  exact ⟨by first | rfl | (simp [errW_none, errW_some] <;> rfl) | (simp [*, errW_none, errW_some] <;> rfl), by repeat (first | (with_reducible first | exact HB.out | apply below_alloc | apply pw_below_drewN | apply below_drew1) | exact HB.out)⟩
end Go.Proofs.YtacgmcmnnogbbaaGreatDoor.PX

namespace Go.Proofs.YtacgmcmnnogbbaaGreatDoor.PX
open Go.RowKit Go.Proofs Go.Proofs.YtacgmcmnnogbbaaGreatDoorW.PrintWords Go.Proofs.YtacgmcmnnogbbaaGreatDoorW.PrintLast Go.Proofs.YtacgmcmnnogbbaaGreatDoorW.PrintMore
set_option linter.unusedVariables false
set_option linter.unusedSimpArgs false
theorem same_same (l : List S56) (hl : l.length ≤ 1000000) : Ev (fun k => ambrylaw25_same.f k l l) true := by
  have go : ∀ (r pre : List S56), pre ++ r = l → Ev (fun k => ambrylaw25_same.l0 k l l (pre.length : Nat)) true := by
    intro r
    induction r with
    | nil =>
      intro pre e
      rw [List.append_nil] at e
      subst e
      exact Ev.succ (Ev.const (x := some true) rfl |>.congr fun k => by rw [ambrylaw25_same.l0, if_neg (by omega)])
    | cons x r ih =>
      intro pre e
      have hpl : l.length = pre.length + 1 + r.length := by rw [← e]; simp; omega
      refine Ev.succ ((ih (pre ++ [x]) (by simpa using e)).congr fun k => ?_)
      rw [ambrylaw25_same.l0, if_pos (by omega), if_pos (by omega), if_pos (by omega), if_pos rfl, if_pos rfl, wrap_id (n := (pre.length : Nat) + 1) (by omega) (by omega)]
      simp
  refine (go l [] rfl).congr fun k => ?_
  rw [ambrylaw25_same.f, if_pos rfl]
  rfl
theorem spans_len : ∀ (k : Nat) (size : Int) (ps : List ByteArray) (out : List S56) (n : Int) (r : List S56 × Int), (out.length : Int) ≤ n → n ≤ 10 → part_Parse.go k size ps out n = some r → r.1.length ≤ 10
  | k, size, [], out, n, r, ho, hn, h => by
    rw [part_Parse.go] at h
    split at h <;> cases h
    · exact Nat.zero_le _
    · show out.length ≤ 10; omega
  | k, size, p :: ps, out, n, r, ho, hn, h => by
    rw [part_Parse.go] at h
    obtain ⟨t, _, h⟩ := Option.bind_eq_some_iff.1 h
    split at h
    · exact spans_len k size ps out n r ho hn h
    · obtain ⟨x, _, h⟩ := Option.bind_eq_some_iff.1 h
      split at h
      · cases h; exact Nat.zero_le _
      · split at h
        · cases h; exact Nat.zero_le _
        · split at h
          · exact spans_len k size ps _ _ r (by simp; omega) (by omega) h
          · exact spans_len k size ps _ _ r (by omega) (by omega) h
theorem parse_len (k : Nat) (s : ByteArray) (size : Int) (r : List S56 × Int) (h : part_Parse.f k s size = some r) : r.1.length ≤ 10 := by
  unfold part_Parse.f at h
  split at h
  · cases h; exact Nat.zero_le _
  · obtain ⟨b, _, h⟩ := Option.bind_eq_some_iff.1 h
    split at h
    · cases h; exact Nat.zero_le _
    · split at h
      · exact spans_len k _ _ [] 0 r (by simp) (by decide) h
      · cases h
theorem reads_true (s : ByteArray) (size : Int) (l : List S56) (h0 : -9223372036854775808 ≤ size) (h1 : size ≤ 9223372036854775807) : Ev (fun k => ambrylaw25_PartReads.f k s size l) true := by
  unfold ambrylaw25_PartReads.f
  refine Ev.bind (f := fun _ => knownT.f) (g := fun k (t101 : Bool) => if t101 = true then (if (s.size : Int) > 300 then (ambrylaw25_PartReads.j0 k s size l true) else (ambrylaw25_PartReads.j0 k s size l (decide ((l.length : Int) > 30)))) else (some false)) (Ev.const rfl) ?_
  simp only [if_true]
  have out : Ev (fun k => ambrylaw25_PartReads.j0 k s size l true) true := Ev.succ (Ev.const (x := some true) rfl |>.congr fun k => by rw [ambrylaw25_PartReads.j0, if_pos rfl])
  by_cases c1 : (s.size : Int) > 300
  · simp only [if_pos c1]; exact out
  · simp only [if_neg c1]
    by_cases c2 : (l.length : Int) > 30
    · simp only [decide_eq_true c2]; exact out
    · simp only [decide_eq_false c2]
      obtain ⟨x, e1, e2⟩ := parse_spans s.data.toList size (by rw [Array.length_toList]; exact Nat.le_of_not_lt fun h => c1 (by show (300 : Int) < s.data.size; omega)) h0 h1
      rw [tx_eq] at e1 e2
      have hx : x.1.length ≤ 10 := by
        obtain ⟨k, hk⟩ := e1.some_
        exact parse_len k s size x hk
      obtain ⟨j, f1, ⟨f2, f3⟩, f4⟩ := join30 l (by omega)
      obtain ⟨j', g1, g2, g3⟩ := ref_join l (by omega)
      have hjj : j = j' := f2.one g2 fun p => (f4 p).trans (g3 p).symm
      subst hjj
      have s1 := same_same x.1 (by omega)
      have s2 := same_same j (by omega)
      refine Ev.succ ((e1.bind (g := fun k (bt102 : List S56 × Int) => (ambryref23_Spans.f k s size).bind fun bt106 => (if bt102.2 = bt106.2 then ((ambrylaw25_same.f k bt102.1 bt106.1).bind fun t110 => (if t110 = true then ((part_Join.f k l).bind fun t111 => ((ambryref23_Join.f k l).bind fun t114 => ((ambrylaw25_same.f k t111 t114).bind fun t117 => (some t117)))) else (some false))) else (some false)))
        (e2.bind (g := fun k (bt106 : List S56 × Int) => (if x.2 = bt106.2 then ((ambrylaw25_same.f k x.1 bt106.1).bind fun t110 => (if t110 = true then ((part_Join.f k l).bind fun t111 => ((ambryref23_Join.f k l).bind fun t114 => ((ambrylaw25_same.f k t111 t114).bind fun t117 => (some t117)))) else (some false))) else (some false)))
          ((s1.bind (g := fun k (t110 : Bool) => (if t110 = true then ((part_Join.f k l).bind fun t111 => ((ambryref23_Join.f k l).bind fun t114 => ((ambrylaw25_same.f k t111 t114).bind fun t117 => (some t117)))) else (some false)))
            ((f1.bind (g := fun k t111 => ((ambryref23_Join.f k l).bind fun t114 => ((ambrylaw25_same.f k t111 t114).bind fun t117 => (some t117)))) (g1.bind (g := fun k t114 => ((ambrylaw25_same.f k j t114).bind fun t117 => (some t117))) (s2.bind (g := fun _ t117 => some t117) (Ev.const rfl)))).congr fun k => if_pos rfl)).congr fun k => if_pos rfl))).congr fun k => ?_)
      rw [ambrylaw25_PartReads.j0, if_neg (by decide)]
theorem partReads_pure (s : ByteArray) (size : Int) (l : List S56) (hw : (Lit.int .i64 size).wf = true) : ∃ k, ambrylaw25_PartReads.f k s size l = some true := by
  have e1 : IntKind.i64.min = -9223372036854775808 := by decide
  have e2 : IntKind.i64.max = 9223372036854775807 := by decide
  simp [Lit.wf, e1, e2] at hw
  exact (reads_true s size l (by omega) (by omega)).some_
/-- The walk, as_ the row asks for it. -/
theorem ambrylaw25_PartReads.walk (P : ∀ (s : ByteArray) (size : Int) (l : List S56), (Lit.int .i64 size).wf = true → ∃ k, ambrylaw25_PartReads.f k s size l = some true) (a0 : ByteArray) (a1 : Int) (a2 : Option Addr) (len2 cap2 : Nat) (z2 : List S56) (w : World)
    (w0 : a0.size ≤ 140737488351232) (w1 : (Lit.int .i64 a1).wf = true) (w2 : Kd.C k56 w a2 len2 z2) (y2 : len2 ≤ cap2) :
    Calls Tryz.prog 3 #[.string a0, .int .i64 a1, .slice a2 len2 cap2] w fun e w' => e = .returned (.bool true) ∧ Below w.heap.size w w' := by
  obtain ⟨k, h⟩ := P a0 a1 z2 w1
  have hl : z2.length = len2 := w2.1
  subst hl
  exact (ambrylaw25_PartReads.calls k a0 a1 a2 cap2 z2 true w w2 y2 h).mono (by rintro e w' ⟨rfl, hd⟩; exact ⟨rfl, hd⟩)
end Go.Proofs.YtacgmcmnnogbbaaGreatDoor.PX

