import Derived.Deep.RegionWith
import Derived.Test.YtacgmcmnnogbbaaGreatDoorPB4
import Derived.Test.YtacgmcmnnogbbaaGreatDoorPB5
import Derived.Test.YtacgmcmnnogbbaaGreatDoorPB7
import Derived.Test.YtacgmcmnnogbbaaGreatDoorPB8
import Derived.Test.YtacgmcmnnogbbaaGreatDoorPB11
import Derived.Test.YtacgmcmnnogbbaaGreatDoorPB12
namespace Go.Proofs.YtacgmcmnnogbbaaGreatDoor.PX
open Go.RowKit Go.Proofs Go.Proofs.YtacgmcmnnogbbaaGreatDoorW.PrintWords Go.Proofs.YtacgmcmnnogbbaaGreatDoorW.PrintLast Go.Proofs.YtacgmcmnnogbbaaGreatDoorW.PrintMore
set_option linter.unusedVariables false
set_option linter.unusedSimpArgs false
noncomputable def apply_p3 : Code := match Tryz.f17.body with | some (.seq _ (.seq _ (.seq _ p))) => p | _ => .skip
noncomputable def apply_p5 : Code := match Tryz.f17.body with | some (.seq _ (.seq _ (.seq _ (.seq _ p)))) => p | _ => .skip
noncomputable def apply_p6 : Code := match Tryz.f17.body with | some (.seq _ (.seq _ (.seq _ (.seq _ (.seq _ p))))) => p | _ => .skip
/-- What is known between the regions. -/
structure PA (H : Nat) (w : World) (q0 q1 : ByteArray) (A2 : Option Addr) (c2 : Nat) (l2 : List S50) (A3 : Option Addr) (n3 c3 : Nat) (s0 : Int) (s1 : ByteArray) (sf : List S50) (sb : List Int) (E2 : Option Addr) (g2 : Nat) (E3 : Option Addr) (g3 : Nat) (W : World) : Prop where
  q : W.heap[H]? = some (.cells #[.string q0, .string q1, .slice A2 l2.length c2, .slice A3 n3 c3] 35 (0, 0))
  r : W.heap[H + 1]? = some (.cells #[.int .i64 s0, .string s1, .slice E2 sf.length g2, .slice E3 sb.length g3] 37 (0, 0))
  z : W.heap[H + 1 + 1]? = some (.cells #[.int .i64 0, .string ⟨#[]⟩, .slice none 0 0, .slice none 0 0] 37 (0, 0))
  R2 : Kd.R k50 50 W (H + 3) (fun _ => True) (.slice E2 sf.length g2) sf
  R3 : Kd.R (Kd.int .u8) 5 W (H + 3) (fun _ => True) (.slice E3 sb.length g3) sb
  cq : Kd.C k50 W A2 l2.length l2
  below : Below H w W
  hH : H = w.heap.size
section
variable {H : Nat} {w : World} {q0 q1 : ByteArray} {A2 : Option Addr} {c2 : Nat} {l2 : List S50} {A3 : Option Addr} {n3 c3 : Nat} {s0 : Int} {s1 : ByteArray} {sf : List S50} {sb : List Int} {E2 : Option Addr} {g2 : Nat} {E3 : Option Addr} {g3 : Nat} {W W' : World}
theorem PA.lies (h : PA H w q0 q1 A2 c2 l2 A3 n3 c3 s0 s1 sf sb E2 g2 E3 g3 W) (hb : Below W.heap.size W W') : PA H w q0 q1 A2 c2 l2 A3 n3 c3 s0 s1 sf sb E2 g2 E3 g3 W' :=
  ⟨blk_below h.q hb, blk_below h.r hb, blk_below h.z hb, Kd.R_below h.R2 hb, Kd.R_below h.R3 hb, Kd.C_below h.cq hb, h.below.trans (hb.mono (by have := h.below.size; have := h.hH; omega)), h.hH⟩
end
/-- Four stores fill a box. -/
def put4 (W : World) (g : Nat) (y0 y1 y2 y3 : Value) : World := (((W.setCell ⟨g, 0, none⟩ y0).setCell ⟨g, 1, none⟩ y1).setCell ⟨g, 2, none⟩ y2).setCell ⟨g, 3, none⟩ y3
theorem put4_box {W : World} {g : Nat} {t : TypeId} {x0 x1 x2 x3 : Value} (y0 y1 y2 y3 : Value) (h : W.heap[g]? = some (.cells #[x0, x1, x2, x3] t (0, 0))) : (put4 W g y0 y1 y2 y3).heap[g]? = some (.cells #[y0, y1, y2, y3] t (0, 0)) :=
  blk_put (blk_put (blk_put (blk_put h 0 y0 rfl) 1 y1 rfl) 2 y2 rfl) 3 y3 rfl
theorem put4_far {W : World} {g : Nat} (y0 y1 y2 y3 : Value) (j : Nat) (hj : j ≠ g) : (put4 W g y0 y1 y2 y3).heap[j]? = W.heap[j]? :=
  (Below.heap_setCell _ ⟨g, 3, none⟩ _ j hj).trans ((Below.heap_setCell _ ⟨g, 2, none⟩ _ j hj).trans ((Below.heap_setCell _ ⟨g, 1, none⟩ _ j hj).trans (Below.heap_setCell _ ⟨g, 0, none⟩ _ j hj)))
theorem put4_below {W : World} {g n₀ : Nat} (y0 y1 y2 y3 : Value) (h : n₀ ≤ g) : Below n₀ W (put4 W g y0 y1 y2 y3) :=
  ((((Below.refl n₀ W).setCell (p := ⟨g, 0, none⟩) h _).setCell (p := ⟨g, 1, none⟩) h _).setCell (p := ⟨g, 2, none⟩) h _).setCell (p := ⟨g, 3, none⟩) h _
theorem put4_grown (W : World) (g : Nat) (y0 y1 y2 y3 : Value) : W.grownBy (put4 W g y0 y1 y2 y3) (some g) :=
  have b := put4_below (W := W) (g := g) (n₀ := 0) y0 y1 y2 y3 (Nat.zero_le _)
  ⟨b.os, b.tape, b.output, b.size, fun j _ hj => put4_far y0 y1 y2 y3 j (fun e => hj (by rw [e]))⟩
/-- The facts that four stores want on their way. -/
theorem put4_way {W : World} {g : Nat} {t : TypeId} {x0 x1 x2 x3 : Value} (y0 y1 y2 : Value) (h : W.heap[g]? = some (.cells #[x0, x1, x2, x3] t (0, 0))) :
    (W.cell? ⟨g, 0, none⟩ = some x0 ∧ W.frozen? ⟨g, 0, none⟩ = false) ∧
    ((W.setCell ⟨g, 0, none⟩ y0).cell? ⟨g, 1, none⟩ = some x1 ∧ (W.setCell ⟨g, 0, none⟩ y0).frozen? ⟨g, 1, none⟩ = false) ∧
    (((W.setCell ⟨g, 0, none⟩ y0).setCell ⟨g, 1, none⟩ y1).cell? ⟨g, 2, none⟩ = some x2 ∧ ((W.setCell ⟨g, 0, none⟩ y0).setCell ⟨g, 1, none⟩ y1).frozen? ⟨g, 2, none⟩ = false) ∧
    ((((W.setCell ⟨g, 0, none⟩ y0).setCell ⟨g, 1, none⟩ y1).setCell ⟨g, 2, none⟩ y2).cell? ⟨g, 3, none⟩ = some x3 ∧ (((W.setCell ⟨g, 0, none⟩ y0).setCell ⟨g, 1, none⟩ y1).setCell ⟨g, 2, none⟩ y2).frozen? ⟨g, 3, none⟩ = false) := by
  have h1 := blk_put h 0 y0 rfl
  have h2 := blk_put h1 1 y1 rfl
  have h3 := blk_put h2 2 y2 rfl
  exact ⟨⟨blk_cell h 0, blk_frozen h 0⟩, ⟨blk_cell h1 1, blk_frozen h1 1⟩, ⟨blk_cell h2 2, blk_frozen h2 2⟩, ⟨blk_cell h3 3, blk_frozen h3 3⟩⟩
theorem out_of_own {α : Type} {d : Kd α} {e : Nat} {W : World} {base : Nat} {ok : Nat → Prop} {v : Value} {xs : List α} (h : d.R e W base ok v xs) {g : Nat} (hg : g < base) : some g ≠ v.ownBlock := fun e' => by
  obtain ⟨_, inner, ho, _⟩ := h
  have := (ho.lt g e'.symm).1
  omega
/-- strconv.Itoa tells t for n, in every world that is younger than w. -/
def ItoaAt (w : World) (n : Int) (t : ByteArray) : Prop := ∀ W, Below w.heap.size w W → Calls Tryz.prog 44 #[.int .i64 n] W fun e w' => e = .returned (.string t) ∧ Below W.heap.size W w'
theorem ItoaAt.lies {w W : World} {n : Int} {t : ByteArray} (h : ItoaAt w n t) (hb : Below w.heap.size w W) : ItoaAt W n t := fun W' hb' => h W' (hb.trans (hb'.mono hb.size))
theorem ItoaAt.small {w : World} {n : Int} {t : ByteArray} (h : strconv_Itoa.f n = some t) : ItoaAt w n t := fun W _ => (strconv_Itoa.calls n t W h).mono fun e w' ⟨h1, h2⟩ => ⟨h1, Drawn0.below h2⟩
end Go.Proofs.YtacgmcmnnogbbaaGreatDoor.PX

namespace Go.Proofs.YtacgmcmnnogbbaaGreatDoor.PX
open Go.RowKit Go.Proofs Go.Proofs.YtacgmcmnnogbbaaGreatDoorW.PrintWords Go.Proofs.YtacgmcmnnogbbaaGreatDoorW.PrintLast Go.Proofs.YtacgmcmnnogbbaaGreatDoorW.PrintMore
set_option linter.unusedVariables false
set_option linter.unusedSimpArgs false
def Qn (N : Act → World → Prop) : Exit → Act → World → Prop
  | .normal, a, w => N a w
  | _, _, _ => False
noncomputable def apply_r15 : Code := match Tryz.f17.body with
  | some (.seq _ (.seq _ (.seq _ (.seq _ (.seq _ (.seq _ (.seq _ (.seq (.seq _ (.seq _ (.block _ (.seq _ (.cond _ _ (.seq _ (.cond _ (.seq _ (.seq r _)) _))))))) _)))))))) => r
  | _ => .skip
noncomputable def apply_r16 : Code := match Tryz.f17.body with
  | some (.seq _ (.seq _ (.seq _ (.seq _ (.seq _ (.seq _ (.seq _ (.seq (.seq _ (.seq _ (.block _ (.seq _ (.cond _ _ (.seq _ (.cond _ (.seq _ (.seq _ r)) _))))))) _)))))))) => r
  | _ => .skip
set_option maxHeartbeats 4000000 in
set_option maxRecDepth 100000 in
theorem apply_15 (H : Nat) (w : World) (q0 q1 : ByteArray) (A2 : Option Addr) (c2 : Nat) (l2 : List S50) (A3 : Option Addr) (n3 c3 : Nat) (s0 : Int) (s1 : ByteArray) (sf : List S50) (sb : List Int) (E2 : Option Addr) (g2 : Nat) (E3 : Option Addr) (g3 : Nat) (W : World) (pa : Aside0 (PA H w q0 q1 A2 c2 l2 A3 n3 c3 s0 s1 sf sb E2 g2 E3 g3 W)) (X : Nat) (x0 x1 : Int) (J : Option Addr) (jn jc : Nat) (sz : ByteArray) (hx : W.heap[X]? = some (.cells #[.int .i64 x0, .int .i64 x1] 56 (0, 0))) (hX : X ≠ H + 1) (b0 : 0 ≤ x0) (b1 : x0 ≤ x1) (b2 : x1 ≤ (sb.length : Int)) (N : Act → World → Prop) (u0 u1 u5 u7 u10 u11 u12 u13 u14 u15 u16 u17 u18 u19 u20 u21 u22 u23 u24 u25 u26 u27 u28 u29 u30 u31 u32 u33 u34 u35 u36 u37 u38 u39 u40 u41 u42 u43 u44 u45 u46 u47 u48 u49 u50 u51 u52 u53 u54 u55 u56 u57 u58 u59 u60 u61 u62 u63 u64 u65 u66 u67 u68 u69 u70 u71 u72 u73 u74 u75 u76 u77 u78 u79 u80 u81 u82 u83 u84 u85 u86 u87 u88 u89 u90 u91 u92 u93 u94 u95 u96 : Value)
    (hN : N { tmps := #[u0, u1, .pointer (some ⟨H, 0, none⟩), .pointer (some ⟨H + 1, 0, none⟩), .pointer (some ⟨H + 1 + 1, 0, none⟩), u5, .slice J jn jc, u7, .string sz, .pointer (some ⟨X, 0, none⟩), u10, u11, u12, u13, u14, u15, u16, u17, u18, u19, u20, u21, u22, u23, u24, u25, u26, u27, u28, u29, u30, u31, u32, u33, u34, u35, u36, u37, u38, u39, u40, u41, u42, u43, u44, u45, u46, u47, u48, u49, u50, u51, u52, u53, u54, u55, u56, u57, u58, u59, u60, u61, u62, u63, u64, u65, u66, u67, u68, .pointer (some ⟨H + 1, 3, none⟩), .slice E3 sb.length g3, .pointer (some ⟨X, 0, none⟩), .int .i64 x0, .pointer (some ⟨X, 1, none⟩), .int .i64 x1, .slice (if g3 = x0.toNat then E3 else Option.map (fun x => x.add x0.toNat) E3) (x1.toNat - x0.toNat) (g3 - x0.toNat), .pointer (some ⟨H + 1, 0, none⟩), .pointer (some ⟨H + 1, 1, none⟩), .pointer (some ⟨H + 1, 3, none⟩), u79, u80, u81, u82, u83, u84, u85, u86, u87, u88, u89, u90, u91, u92, u93, u94, u95, u96], defers := [] } (((W.setCell ⟨H + 1, 0, none⟩ (.int .i64 206)).setCell ⟨H + 1, 1, none⟩ (.string ⟨#[80, 97, 114, 116, 105, 97, 108, 32, 67, 111, 110, 116, 101, 110, 116]⟩)).setCell ⟨H + 1, 3, none⟩ (.slice (if g3 = x0.toNat then E3 else Option.map (fun x => x.add x0.toNat) E3) (x1.toNat - x0.toNat) (g3 - x0.toNat))).drew) :
    apply_r15.wp Tryz.prog (Qn N) { tmps := #[u0, u1, .pointer (some ⟨H, 0, none⟩), .pointer (some ⟨H + 1, 0, none⟩), .pointer (some ⟨H + 1 + 1, 0, none⟩), u5, .slice J jn jc, u7, .string sz, .pointer (some ⟨X, 0, none⟩), u10, u11, u12, u13, u14, u15, u16, u17, u18, u19, u20, u21, u22, u23, u24, u25, u26, u27, u28, u29, u30, u31, u32, u33, u34, u35, u36, u37, u38, u39, u40, u41, u42, u43, u44, u45, u46, u47, u48, u49, u50, u51, u52, u53, u54, u55, u56, u57, u58, u59, u60, u61, u62, u63, u64, u65, u66, u67, u68, u69, u70, u71, u72, u73, u74, u75, u76, u77, u78, u79, u80, u81, u82, u83, u84, u85, u86, u87, u88, u89, u90, u91, u92, u93, u94, u95, u96], defers := [] } W := by
  simp only [apply_r15, Tryz.f17]
  have kr3 := blk_cell pa.out.r 3
  have kx0 := blk_cell hx 0
  have kx1 := blk_cell hx 1
  have kr0 := blk_cell pa.out.r 0
  have hx1 := blk_far hx (p := ⟨H + 1, 0, none⟩) hX (.int .i64 206)
  have hx2 := blk_far hx1 (p := ⟨H + 1, 1, none⟩) hX (.string ⟨#[80, 97, 114, 116, 105, 97, 108, 32, 67, 111, 110, 116, 101, 110, 116]⟩)
  have kx01 := blk_cell hx1 0
  have kx11 := blk_cell hx1 1
  have kx02 := blk_cell hx2 0
  have kx12 := blk_cell hx2 1
  clear hx1 hx2
  have kr1 := blk_cell pa.out.r 1
  have fr0 := blk_frozen pa.out.r 0
  have fr1 := blk_frozen pa.out.r 1
  have fr3 := blk_frozen pa.out.r 3
  have g3' := (Kd.R_reads' pa.out.R3).2.1
  have b3 : x1 ≤ (g3 : Int) := by omega
  go_wp2
  go_region
  all_goals exact hN
set_option maxHeartbeats 4000000 in
set_option maxRecDepth 100000 in
theorem apply_16 (H X k : Nat) (x0 x1 : Int) (sf nf : List S50) (E2 : Option Addr) (g2 : Nat) (y0 y1 y3 : Value) (t1 t2 sz : ByteArray) (W : World) (J : Option Addr) (jn jc : Nat)
    (hr : W.heap[H + 1]? = some (.cells #[y0, y1, .slice E2 sf.length g2, y3] 37 (0, 0))) (hx : W.heap[X]? = some (.cells #[.int .i64 x0, .int .i64 x1] 56 (0, 0)))
    (hC : Aside0 (Kd.C k50 W E2 sf.length sf)) (hg2 : sf.length ≤ g2) (w0 : World) (hw0 : Aside0 (Below w0.heap.size w0 W)) (ht1 : Aside0 (ItoaAt w0 x0 t1)) (ht2 : Aside0 (ItoaAt w0 (wrap64 (x1 - 1)) t2)) (hset : head_Set.f k sf ⟨#[67, 111, 110, 116, 101, 110, 116, 45, 82, 97, 110, 103, 101]⟩ ((((((⟨#[98, 121, 116, 101, 115, 32]⟩ : ByteArray) ++ t1) ++ (⟨#[45]⟩ : ByteArray)) ++ t2) ++ (⟨#[47]⟩ : ByteArray)) ++ sz) = some nf)
    (l1 : t1.size ≤ 1000) (l2 : t2.size ≤ 1000) (l3 : sz.size ≤ 1000) (N : Act → World → Prop)
    (hN : Aside0 (∀ (W3 : World) (D : Option Addr) (dc : Nat) (u0 u1 u5 u7 u10 u11 u12 u13 u14 u15 u16 u17 u18 u19 u20 u21 u22 u23 u24 u25 u26 u27 u28 u29 u30 u31 u32 u33 u34 u35 u36 u37 u38 u39 u40 u41 u42 u43 u44 u45 u46 u47 u48 u49 u50 u51 u52 u53 u54 u55 u56 u57 u58 u59 u60 u61 u62 u63 u64 u65 u66 u67 u68 u69 u70 u71 u72 u73 u74 u75 u76 u77 u78 u79 u80 u81 u82 u83 u84 u85 u86 u87 u88 u89 u90 u91 u92 u93 u94 u95 u96 : Value), Below W.heap.size W W3 → Kd.R k50 50 W3 W.heap.size (fun _ => True) (.slice D nf.length dc) nf → N { tmps := #[u0, u1, .pointer (some ⟨H, 0, none⟩), .pointer (some ⟨H + 1, 0, none⟩), .pointer (some ⟨H + 1 + 1, 0, none⟩), u5, .slice J jn jc, u7, .string sz, .pointer (some ⟨X, 0, none⟩), u10, u11, u12, u13, u14, u15, u16, u17, u18, u19, u20, u21, u22, u23, u24, u25, u26, u27, u28, u29, u30, u31, u32, u33, u34, u35, u36, u37, u38, u39, u40, u41, u42, u43, u44, u45, u46, u47, u48, u49, u50, u51, u52, u53, u54, u55, u56, u57, u58, u59, u60, u61, u62, u63, u64, u65, u66, u67, u68, u69, u70, u71, u72, u73, u74, u75, u76, u77, u78, u79, u80, u81, u82, u83, u84, u85, u86, u87, u88, u89, u90, u91, u92, u93, u94, u95, u96], defers := [] } (W3.setCell ⟨H + 1, 2, none⟩ (.slice D nf.length dc)))) (u0 u1 u5 u7 u10 u11 u12 u13 u14 u15 u16 u17 u18 u19 u20 u21 u22 u23 u24 u25 u26 u27 u28 u29 u30 u31 u32 u33 u34 u35 u36 u37 u38 u39 u40 u41 u42 u43 u44 u45 u46 u47 u48 u49 u50 u51 u52 u53 u54 u55 u56 u57 u58 u59 u60 u61 u62 u63 u64 u65 u66 u67 u68 u69 u70 u71 u72 u73 u74 u75 u76 u77 u78 u79 u80 u81 u82 u83 u84 u85 u86 u87 u88 u89 u90 u91 u92 u93 u94 u95 u96 : Value) :
    apply_r16.wp Tryz.prog (Qn N) { tmps := #[u0, u1, .pointer (some ⟨H, 0, none⟩), .pointer (some ⟨H + 1, 0, none⟩), .pointer (some ⟨H + 1 + 1, 0, none⟩), u5, .slice J jn jc, u7, .string sz, .pointer (some ⟨X, 0, none⟩), u10, u11, u12, u13, u14, u15, u16, u17, u18, u19, u20, u21, u22, u23, u24, u25, u26, u27, u28, u29, u30, u31, u32, u33, u34, u35, u36, u37, u38, u39, u40, u41, u42, u43, u44, u45, u46, u47, u48, u49, u50, u51, u52, u53, u54, u55, u56, u57, u58, u59, u60, u61, u62, u63, u64, u65, u66, u67, u68, u69, u70, u71, u72, u73, u74, u75, u76, u77, u78, u79, u80, u81, u82, u83, u84, u85, u86, u87, u88, u89, u90, u91, u92, u93, u94, u95, u96], defers := [] } W := by
  simp only [apply_r16, Tryz.f17]
  have kr2 := blk_cell hr 2
  have kx0 := blk_cell hx 0
  have kx1 := blk_cell hx 1
  have d1 : ¬ 9223372036854775807 < 6 + t1.size := by omega
  have d2 : ¬ 9223372036854775807 < 6 + t1.size + 1 := by omega
  have d3 : ¬ 9223372036854775807 < 6 + t1.size + 1 + t2.size := by omega
  have d4 : ¬ 9223372036854775807 < 6 + t1.size + 1 + t2.size + 1 := by omega
  have d5 : ¬ 9223372036854775807 < 6 + t1.size + 1 + t2.size + 1 + sz.size := by omega
  replace hr := Aside0.mk hr
  replace hx := Aside0.mk hx
  replace hset := Aside0.mk hset
  go_wp2
  go_region_with (first | (go_at_call 44; refine (ht1.out _ (by first | exact hw0.out | exact pw_below_drewN hw0.out _ | exact below_drew1 hw0.out)).mono ?_; clear ht1; rintro e w1 ⟨rfl, hb1⟩; have hw1 := Aside0.mk (below_then (B := W.heap.size) (w := W) (by first | exact Below.refl _ _ | exact pw_below_drewN (Below.refl _ _) _ | exact below_drew1 (Below.refl _ _)) (by exact Nat.le_refl _) hb1); clear hb1 kx0 kx1 kr2; have kx1 := blk_cell (blk_below hx.out hw1.out) 1; have kr2 := blk_cell (blk_below hr.out hw1.out) 2) | (go_at_call 44; (try simp only [i64_w]); refine (ht2.out _ (by first | exact (hw0.out.trans (hw1.out.mono hw0.out.size)) | exact pw_below_drewN (hw0.out.trans (hw1.out.mono hw0.out.size)) _ | exact below_drew1 (hw0.out.trans (hw1.out.mono hw0.out.size)))).mono ?_; clear ht2; rintro e w2 ⟨rfl, hb2⟩; have hw2 := Aside0.mk (below_then (B := W.heap.size) (w := W) (by first | exact hw1.out | exact pw_below_drewN hw1.out _ | exact below_drew1 hw1.out) (by exact hw1.out.size) hb2); clear hb2 kx1 kr2; have kr2 := blk_cell (blk_below hr.out hw2.out) 2) | (go_at_call 45; refine (head_Set.calls k E2 g2 sf ⟨#[67, 111, 110, 116, 101, 110, 116, 45, 82, 97, 110, 103, 101]⟩ ((((((⟨#[98, 121, 116, 101, 115, 32]⟩ : ByteArray) ++ t1) ++ (⟨#[45]⟩ : ByteArray)) ++ t2) ++ (⟨#[47]⟩ : ByteArray)) ++ sz) nf _ (Kd.C_below hC.out (by first | exact hw2.out | exact pw_below_drewN hw2.out _ | exact below_drew1 hw2.out)) hg2 hset.out).mono ?_; rintro e w3 ⟨vs, rfl, hR3, hb3⟩; obtain ⟨D, dc, rfl, hdc, _⟩ := Kd.R_reads hR3; have hw3 := Aside0.mk (below_then (B := W.heap.size) (w := W) (by first | exact hw2.out | exact pw_below_drewN hw2.out _ | exact below_drew1 hw2.out) (by exact hw2.out.size) hb3); clear hb3; have hz := blk_below hr.out hw3.out; have kz := blk_cell hz 2; have fz := blk_frozen hz 2; clear hz; replace hR3 := Aside0.mk (Kd.R_lower hR3 (by exact hw2.out.size))))
  all_goals exact hN.out _ D dc _ _ _ _ _ _ _ _ _ _ _ _ _ _ _ _ _ _ _ _ _ _ _ _ _ _ _ _ _ _ _ _ _ _ _ _ _ _ _ _ _ _ _ _ _ _ _ _ _ _ _ _ _ _ _ _ _ _ _ _ _ _ _ _ _ _ _ _ _ _ _ _ _ _ _ _ _ _ _ _ _ _ _ _ _ _ _ _ _ _ _ hw3.out hR3.out
end Go.Proofs.YtacgmcmnnogbbaaGreatDoor.PX

namespace Go.Proofs.YtacgmcmnnogbbaaGreatDoor.PX
open Go.RowKit Go.Proofs Go.Proofs.YtacgmcmnnogbbaaGreatDoorW.PrintWords Go.Proofs.YtacgmcmnnogbbaaGreatDoorW.PrintLast Go.Proofs.YtacgmcmnnogbbaaGreatDoorW.PrintMore
set_option linter.unusedVariables false
set_option linter.unusedSimpArgs false
/-- What Apply hands back. -/
def ApplyPost (w : World) (o0 : Int) (o1 : ByteArray) (of : List S50) (ob : List Int) (e : Ending) (W : World) : Prop :=
  ∃ v2 v3 : Value, e = .returned (.agg #[.int .i64 o0, .string o1, v2, v3]) ∧ Kd.R k50 50 W w.heap.size (fun _ => True) v2 of ∧ Kd.Q (Kd.int .u8) 5 W w.heap.size (fun _ => True) v3 ob ∧ Below w.heap.size w W
theorem R_one50 (W : World) (n v : ByteArray) (base : Nat) (hb : base ≤ W.heap.size) : Kd.R k50 50 (W.alloc (Obj.cells #[.string n, .string v] 50)) base (fun _ => True) (.slice (some ⟨W.heap.size, 0, none⟩) 1 1) [⟨n, v⟩] :=
  ⟨fun _ _ => trivial, [.string n, .string v], World.ownsRow_lit (base := base) (e := 50) (size := 2) W #[.string n, .string v] 1 hb (by decide) rfl, Reps.c2 (k50_mkM _ _ _ (⟨n, v⟩ : S50)) (Reps.none _ _)⟩
/-- The end: r is copied to the result. -/
theorem PA.told {H : Nat} {w : World} {q0 q1 : ByteArray} {A2 : Option Addr} {c2 : Nat} {l2 : List S50} {A3 : Option Addr} {n3 c3 : Nat} {s0 : Int} {s1 : ByteArray} {sf : List S50} {sb : List Int} {E2 : Option Addr} {g2 : Nat} {E3 : Option Addr} {g3 : Nat} {W : World}
    (h : PA H w q0 q1 A2 c2 l2 A3 n3 c3 s0 s1 sf sb E2 g2 E3 g3 W) : ApplyPost w s0 s1 sf sb (.returned (.agg #[.int .i64 s0, .string s1, .slice E2 sf.length g2, .slice E3 sb.length g3])) (put4 W (H + 1 + 1) (.int .i64 s0) (.string s1) (.slice E2 sf.length g2) (.slice E3 sb.length g3)) := by
  have gr := put4_grown W (H + 1 + 1) (.int .i64 s0) (.string s1) (.slice E2 sf.length g2) (.slice E3 sb.length g3)
  have r2 := Kd.R_grown1 h.R2 rfl gr (out_of_own h.R2 (by omega))
  have r3 := Kd.R_grown1 h.R3 rfl gr (out_of_own h.R3 (by omega))
  have hH := h.hH
  exact ⟨_, _, rfl, Kd.R_lower r2 (by omega), Kd.Q_of_R (Kd.R_lower r3 (by omega)), h.hH ▸ h.below.trans (put4_below _ _ _ _ (by omega))⟩
set_option maxHeartbeats 4000000 in
set_option maxRecDepth 100000 in
/-- Region 6: Parse has told an error: r as_ it is. -/
theorem apply_6err (H : Nat) (w : World) (q0 q1 : ByteArray) (A2 : Option Addr) (c2 : Nat) (l2 : List S50) (A3 : Option Addr) (n3 c3 : Nat) (s0 : Int) (s1 : ByteArray) (sf : List S50) (sb : List Int) (E2 : Option Addr) (g2 : Nat) (E3 : Option Addr) (g3 : Nat) (W : World) (pa : Aside0 (PA H w q0 q1 A2 c2 l2 A3 n3 c3 s0 s1 sf sb E2 g2 E3 g3 W)) (e : Int) (he : e ≠ 0) (L : Option Addr) (ln lc : Nat) (u0 u1 u5 u8 u9 u10 u11 u12 u13 u14 u15 u16 u17 u18 u19 u20 u21 u22 u23 u24 u25 u26 u27 u28 u29 u30 u31 u32 u33 u34 u35 u36 u37 u38 u39 u40 u41 u42 u43 u44 u45 u46 u47 u48 u49 u50 u51 u52 u53 u54 u55 u56 u57 u58 u59 u60 u61 u62 u63 u64 u65 u66 u67 u68 u69 u70 u71 u72 u73 u74 u75 u76 u77 u78 u79 u80 u81 u82 u83 u84 u85 u86 u87 u88 u89 u90 u91 u92 u93 u94 u95 u96 : Value) :
    apply_p6.wp Tryz.prog (bodyPost Tryz.prog Tryz.f17 (ApplyPost w s0 s1 sf sb)) { tmps := #[u0, u1, .pointer (some ⟨H, 0, none⟩), .pointer (some ⟨H + 1, 0, none⟩), .pointer (some ⟨H + 1 + 1, 0, none⟩), u5, .slice L ln lc, .int .i64 e, u8, u9, u10, u11, u12, u13, u14, u15, u16, u17, u18, u19, u20, u21, u22, u23, u24, u25, u26, u27, u28, u29, u30, u31, u32, u33, u34, u35, u36, u37, u38, u39, u40, u41, u42, u43, u44, u45, u46, u47, u48, u49, u50, u51, u52, u53, u54, u55, u56, u57, u58, u59, u60, u61, u62, u63, u64, u65, u66, u67, u68, u69, u70, u71, u72, u73, u74, u75, u76, u77, u78, u79, u80, u81, u82, u83, u84, u85, u86, u87, u88, u89, u90, u91, u92, u93, u94, u95, u96], defers := [] } W := by
  obtain ⟨Q, hQ⟩ : ∃ Q, Q = bodyPost Tryz.prog Tryz.f17 (ApplyPost w s0 s1 sf sb) := ⟨_, rfl⟩
  rw [← hQ]
  simp only [apply_p6, Tryz.f17]
  replace hQ := Aside0.mk hQ
  have hu37 := Tryz.underlying37
  have hu35 := Tryz.underlying35
  have hu50 := Tryz.underlying50
  have ce : (e == 0) = false := by simp [he]
  have kr0 := blk_cell pa.out.r 0
  have kr1 := blk_cell pa.out.r 1
  have kr2 := blk_cell pa.out.r 2
  have kr3 := blk_cell pa.out.r 3
  obtain ⟨⟨z0, f0⟩, ⟨z1, f1⟩, ⟨z2, f2⟩, ⟨z3, f3⟩⟩ := put4_way (.int .i64 s0) (.string s1) (.slice E2 sf.length g2) pa.out.z
  go_wp2
  rw [hQ.out]
  refine bodyPost_ret (results_cell_row rfl _ _ (H + 1 + 1) 37 #[.int .i64 s0, .string s1, .slice E2 sf.length g2, .slice E3 sb.length g3] (0, 0) _ rfl (put4_box _ _ _ _ pa.out.z) Tryz.underlying37 rfl (by kernel_rfl)) rfl ?_
  exact pa.out.told
set_option maxHeartbeats 4000000 in
set_option maxRecDepth 100000 in
/-- Region 6: more than one span: r as_ it is. -/
theorem apply_6many (H : Nat) (w : World) (q0 q1 : ByteArray) (A2 : Option Addr) (c2 : Nat) (l2 : List S50) (A3 : Option Addr) (n3 c3 : Nat) (s0 : Int) (s1 : ByteArray) (sf : List S50) (sb : List Int) (E2 : Option Addr) (g2 : Nat) (E3 : Option Addr) (g3 : Nat) (W : World) (pa : Aside0 (PA H w q0 q1 A2 c2 l2 A3 n3 c3 s0 s1 sf sb E2 g2 E3 g3 W)) (k : Nat) (ll j : List S56) (sz : ByteArray) (L : Option Addr) (lc : Nat) (hl : Aside0 (Kd.C k56 W L ll.length ll)) (hlc : ll.length ≤ lc) (hsz : Aside0 (ItoaAt w (sb.length : Int) sz)) (hj : Aside0 (part_Join.f k ll = some j))
    (j0 : j.length ≠ 0) (j1 : j.length ≠ 1) (u0 u1 u5 u8 u9 u10 u11 u12 u13 u14 u15 u16 u17 u18 u19 u20 u21 u22 u23 u24 u25 u26 u27 u28 u29 u30 u31 u32 u33 u34 u35 u36 u37 u38 u39 u40 u41 u42 u43 u44 u45 u46 u47 u48 u49 u50 u51 u52 u53 u54 u55 u56 u57 u58 u59 u60 u61 u62 u63 u64 u65 u66 u67 u68 u69 u70 u71 u72 u73 u74 u75 u76 u77 u78 u79 u80 u81 u82 u83 u84 u85 u86 u87 u88 u89 u90 u91 u92 u93 u94 u95 u96 : Value) :
    apply_p6.wp Tryz.prog (bodyPost Tryz.prog Tryz.f17 (ApplyPost w s0 s1 sf sb)) { tmps := #[u0, u1, .pointer (some ⟨H, 0, none⟩), .pointer (some ⟨H + 1, 0, none⟩), .pointer (some ⟨H + 1 + 1, 0, none⟩), u5, .slice L ll.length lc, .int .i64 0, u8, u9, u10, u11, u12, u13, u14, u15, u16, u17, u18, u19, u20, u21, u22, u23, u24, u25, u26, u27, u28, u29, u30, u31, u32, u33, u34, u35, u36, u37, u38, u39, u40, u41, u42, u43, u44, u45, u46, u47, u48, u49, u50, u51, u52, u53, u54, u55, u56, u57, u58, u59, u60, u61, u62, u63, u64, u65, u66, u67, u68, u69, u70, u71, u72, u73, u74, u75, u76, u77, u78, u79, u80, u81, u82, u83, u84, u85, u86, u87, u88, u89, u90, u91, u92, u93, u94, u95, u96], defers := [] } W := by
  obtain ⟨Q, hQ⟩ : ∃ Q, Q = bodyPost Tryz.prog Tryz.f17 (ApplyPost w s0 s1 sf sb) := ⟨_, rfl⟩
  rw [← hQ]
  simp only [apply_p6, Tryz.f17]
  replace hQ := Aside0.mk hQ
  have hu37 := Tryz.underlying37
  have hu35 := Tryz.underlying35
  have hu50 := Tryz.underlying50
  have kr3 := blk_cell pa.out.r 3
  have cj0 : ((j.length : Int) == 0) = false := beq_eq_false_iff_ne.2 (by omega)
  have cj1 : ((j.length : Int) == 1) = false := beq_eq_false_iff_ne.2 (by omega)
  have cj0' : ¬ ((j.length : Int) = 0) := by omega
  have cj1' : ¬ ((j.length : Int) = 1) := by omega
  go_wp2_with (first | (go_at_call 44; refine (hsz.out _ (by first | exact (pa.out.hH ▸ pa.out.below) | exact pw_below_drewN (pa.out.hH ▸ pa.out.below) _ | exact below_drew1 (pa.out.hH ▸ pa.out.below))).mono ?_; rintro e W1 ⟨rfl, m1⟩; replace m1 := Aside0.mk (below_then (B := W.heap.size) (w := W) (by first | exact Below.refl _ _ | exact pw_below_drewN (Below.refl _ _) _ | exact below_drew1 (Below.refl _ _)) (by exact Nat.le_refl _) m1)) | (go_at_call 12; refine (part_Join.calls k L lc ll j _ (Kd.C_below hl.out (by first | exact m1.out | exact pw_below_drewN m1.out _ | exact below_drew1 m1.out)) hlc hj.out).mono ?_; rintro e W2 ⟨vj, rfl, hR, hb2⟩; obtain ⟨J, jc, rfl, hjc, hJ⟩ := Kd.R_reads hR; have pa2 := Aside0.mk (pa.out.lies (below_then (B := W.heap.size) (w := W) (by first | exact m1.out | exact pw_below_drewN m1.out _ | exact below_drew1 m1.out) (by exact m1.out.size) hb2)); clear hR hb2; replace hJ := Aside0.mk hJ; have kr0 := blk_cell pa2.out.r 0; have kr1 := blk_cell pa2.out.r 1; have kr2 := blk_cell pa2.out.r 2; have kr3 := blk_cell pa2.out.r 3; obtain ⟨⟨z0, f0⟩, ⟨z1, f1⟩, ⟨z2, f2⟩, ⟨z3, f3⟩⟩ := put4_way (.int .i64 s0) (.string s1) (.slice E2 sf.length g2) pa2.out.z))
  rw [hQ.out]
  refine bodyPost_ret (results_cell_row rfl _ _ (H + 1 + 1) 37 #[.int .i64 s0, .string s1, .slice E2 sf.length g2, .slice E3 sb.length g3] (0, 0) _ rfl (put4_box _ _ _ _ pa2.out.z) Tryz.underlying37 rfl (by kernel_rfl)) rfl ?_
  exact pa2.out.told
set_option maxHeartbeats 4000000 in
set_option maxRecDepth 100000 in
/-- Region 6: no span: 416. -/
theorem apply_6none (H : Nat) (w : World) (q0 q1 : ByteArray) (A2 : Option Addr) (c2 : Nat) (l2 : List S50) (A3 : Option Addr) (n3 c3 : Nat) (s0 : Int) (s1 : ByteArray) (sf : List S50) (sb : List Int) (E2 : Option Addr) (g2 : Nat) (E3 : Option Addr) (g3 : Nat) (W : World) (pa : Aside0 (PA H w q0 q1 A2 c2 l2 A3 n3 c3 s0 s1 sf sb E2 g2 E3 g3 W)) (k : Nat) (ll : List S56) (sz : ByteArray) (L : Option Addr) (lc : Nat) (hl : Aside0 (Kd.C k56 W L ll.length ll)) (hlc : ll.length ≤ lc) (hsz : Aside0 (ItoaAt w (sb.length : Int) sz)) (hj : Aside0 (part_Join.f k ll = some [])) (hszl : sz.size ≤ 1000)
    (u0 u1 u5 u8 u9 u10 u11 u12 u13 u14 u15 u16 u17 u18 u19 u20 u21 u22 u23 u24 u25 u26 u27 u28 u29 u30 u31 u32 u33 u34 u35 u36 u37 u38 u39 u40 u41 u42 u43 u44 u45 u46 u47 u48 u49 u50 u51 u52 u53 u54 u55 u56 u57 u58 u59 u60 u61 u62 u63 u64 u65 u66 u67 u68 u69 u70 u71 u72 u73 u74 u75 u76 u77 u78 u79 u80 u81 u82 u83 u84 u85 u86 u87 u88 u89 u90 u91 u92 u93 u94 u95 u96 : Value) :
    apply_p6.wp Tryz.prog (bodyPost Tryz.prog Tryz.f17 (ApplyPost w 416 ⟨#[82, 97, 110, 103, 101, 32, 78, 111, 116, 32, 83, 97, 116, 105, 115, 102, 105, 97, 98, 108, 101]⟩ [⟨⟨#[67, 111, 110, 116, 101, 110, 116, 45, 82, 97, 110, 103, 101]⟩, (⟨#[98, 121, 116, 101, 115, 32, 42, 47]⟩ : ByteArray) ++ sz⟩] [])) { tmps := #[u0, u1, .pointer (some ⟨H, 0, none⟩), .pointer (some ⟨H + 1, 0, none⟩), .pointer (some ⟨H + 1 + 1, 0, none⟩), u5, .slice L ll.length lc, .int .i64 0, u8, u9, u10, u11, u12, u13, u14, u15, u16, u17, u18, u19, u20, u21, u22, u23, u24, u25, u26, u27, u28, u29, u30, u31, u32, u33, u34, u35, u36, u37, u38, u39, u40, u41, u42, u43, u44, u45, u46, u47, u48, u49, u50, u51, u52, u53, u54, u55, u56, u57, u58, u59, u60, u61, u62, u63, u64, u65, u66, u67, u68, u69, u70, u71, u72, u73, u74, u75, u76, u77, u78, u79, u80, u81, u82, u83, u84, u85, u86, u87, u88, u89, u90, u91, u92, u93, u94, u95, u96], defers := [] } W := by
  obtain ⟨j, hjj⟩ : ∃ j : List S56, j = [] := ⟨_, rfl⟩
  rw [← hjj] at hj
  obtain ⟨Q, hQ⟩ : ∃ Q, Q = bodyPost Tryz.prog Tryz.f17 (ApplyPost w 416 ⟨#[82, 97, 110, 103, 101, 32, 78, 111, 116, 32, 83, 97, 116, 105, 115, 102, 105, 97, 98, 108, 101]⟩ [⟨⟨#[67, 111, 110, 116, 101, 110, 116, 45, 82, 97, 110, 103, 101]⟩, (⟨#[98, 121, 116, 101, 115, 32, 42, 47]⟩ : ByteArray) ++ sz⟩] []) := ⟨_, rfl⟩
  rw [← hQ]
  simp only [apply_p6, Tryz.f17]
  replace hQ := Aside0.mk hQ
  have hu37 := Tryz.underlying37
  have hu35 := Tryz.underlying35
  have hu50 := Tryz.underlying50
  have kr3 := blk_cell pa.out.r 3
  have cj0 : (j.length : Int) = 0 := by rw [hjj]; rfl
  have csz : ¬ 9223372036854775807 < 8 + sz.size := by omega
  clear hjj
  go_wp2_with (first | (go_at_call 44; refine (hsz.out _ (by first | exact (pa.out.hH ▸ pa.out.below) | exact pw_below_drewN (pa.out.hH ▸ pa.out.below) _ | exact below_drew1 (pa.out.hH ▸ pa.out.below))).mono ?_; rintro e W1 ⟨rfl, m1⟩; replace m1 := Aside0.mk (below_then (B := W.heap.size) (w := W) (by first | exact Below.refl _ _ | exact pw_below_drewN (Below.refl _ _) _ | exact below_drew1 (Below.refl _ _)) (by exact Nat.le_refl _) m1)) | (go_at_call 12; refine (part_Join.calls k L lc ll j _ (Kd.C_below hl.out (by first | exact m1.out | exact pw_below_drewN m1.out _ | exact below_drew1 m1.out)) hlc hj.out).mono ?_; rintro e W2 ⟨vj, rfl, hR, hb2⟩; obtain ⟨J, jc, rfl, hjc, hJ⟩ := Kd.R_reads hR; have pa2 := Aside0.mk (pa.out.lies (below_then (B := W.heap.size) (w := W) (by first | exact m1.out | exact pw_below_drewN m1.out _ | exact below_drew1 m1.out) (by exact m1.out.size) hb2)); clear hR hb2; replace hJ := Aside0.mk hJ; have zz := blk_alloc pa2.out.z (Obj.cells #[Value.string ⟨#[67, 111, 110, 116, 101, 110, 116, 45, 82, 97, 110, 103, 101]⟩, Value.string ((⟨#[98, 121, 116, 101, 115, 32, 42, 47]⟩ : ByteArray) ++ sz)] 50); obtain ⟨⟨z0, f0⟩, ⟨z1, f1⟩, ⟨z2, f2⟩, ⟨z3, f3⟩⟩ := put4_way (.int .i64 416) (.string ⟨#[82, 97, 110, 103, 101, 32, 78, 111, 116, 32, 83, 97, 116, 105, 115, 102, 105, 97, 98, 108, 101]⟩) (.slice (some ⟨W2.heap.size, 0, none⟩) 1 1) zz))
  try simp only [Exit.inBlock, Exit.then]
  rw [hQ.out]
  refine bodyPost_ret (results_cell_row rfl _ _ (H + 1 + 1) 37 #[.int .i64 416, .string ⟨#[82, 97, 110, 103, 101, 32, 78, 111, 116, 32, 83, 97, 116, 105, 115, 102, 105, 97, 98, 108, 101]⟩, .slice (some ⟨W2.heap.size, 0, none⟩) 1 1, .slice none 0 0] (0, 0) _ rfl (put4_box _ _ _ _ zz) Tryz.underlying37 rfl (by kernel_rfl)) rfl ?_
  have hlt := blk_lt pa2.out.z
  have hH := pa2.out.hH
  have RL := R_one50 W2 ⟨#[67, 111, 110, 116, 101, 110, 116, 45, 82, 97, 110, 103, 101]⟩ ((⟨#[98, 121, 116, 101, 115, 32, 42, 47]⟩ : ByteArray) ++ sz) (H + 3) (by omega)
  have gr := put4_grown (W2.alloc (Obj.cells #[Value.string ⟨#[67, 111, 110, 116, 101, 110, 116, 45, 82, 97, 110, 103, 101]⟩, Value.string ((⟨#[98, 121, 116, 101, 115, 32, 42, 47]⟩ : ByteArray) ++ sz)] 50)) (H + 1 + 1) (.int .i64 416) (.string ⟨#[82, 97, 110, 103, 101, 32, 78, 111, 116, 32, 83, 97, 116, 105, 115, 102, 105, 97, 98, 108, 101]⟩) (.slice (some ⟨W2.heap.size, 0, none⟩) 1 1) (.slice none 0 0)
  exact ⟨_, _, rfl, Kd.R_lower (Kd.R_grown1 RL rfl gr (out_of_own RL (by omega))) (by omega), Kd.Q_nil _ _ _ _ _, pa2.out.hH ▸ (pa2.out.below.alloc (by have := pa2.out.below.size; omega) _).trans (put4_below _ _ _ _ (by omega))⟩
end Go.Proofs.YtacgmcmnnogbbaaGreatDoor.PX

namespace Go.Proofs.YtacgmcmnnogbbaaGreatDoor.PX
open Go.RowKit Go.Proofs Go.Proofs.YtacgmcmnnogbbaaGreatDoorW.PrintWords Go.Proofs.YtacgmcmnnogbbaaGreatDoorW.PrintLast Go.Proofs.YtacgmcmnnogbbaaGreatDoorW.PrintMore
set_option linter.unusedVariables false
set_option linter.unusedSimpArgs false
def Qm (N : Act → World → Prop) : Exit → Act → World → Prop
  | .normal, a, w => N a w
  | _, _, _ => False
noncomputable def apply_r5 : Code := match Tryz.f17.body with | some (.seq _ (.seq _ (.seq _ (.seq _ (.seq r _))))) => r | _ => .skip
theorem apply_p5_eq : apply_p5 = .seq apply_r5 apply_p6 := rfl
theorem C_str1 {W : World} {A : Option Addr} {v : ByteArray} (h : Kd.C Kd.string W A 1 [v]) : ∃ ad, A = some ad ∧ W.cell? ad = some (.string v) := by
  obtain ⟨ad, hA, hc⟩ := h.2.2 (by decide)
  obtain ⟨c, hl, hR, hcell⟩ := hc 0 v rfl
  obtain rfl : c = [.string v] := by first | exact hR | exact hR.symm | simpa [Kd.string] using hR
  refine ⟨ad, hA, ?_⟩
  have := hcell 0 _ rfl
  simpa [Addr.add] using this
set_option maxHeartbeats 4000000 in
set_option maxRecDepth 100000 in
theorem apply_5 (H : Nat) (w : World) (q0 q1 : ByteArray) (A2 : Option Addr) (c2 : Nat) (l2 : List S50) (A3 : Option Addr) (n3 c3 : Nat) (s0 : Int) (s1 : ByteArray) (sf : List S50) (sb : List Int) (E2 : Option Addr) (g2 : Nat) (E3 : Option Addr) (g3 : Nat) (W : World) (pa : Aside0 (PA H w q0 q1 A2 c2 l2 A3 n3 c3 s0 s1 sf sb E2 g2 E3 g3 W)) (k : Nat) (v0 : ByteArray) (ad : Addr) (ac : Nat) (hac : 1 ≤ ac) (hA : W.cell? ad = some (.string v0)) (ll : List S56) (e : Int) (hp : Aside0 (part_Parse.f k v0 (sb.length : Int) = some (ll, e))) (N : Act → World → Prop)
    (hN : Aside0 (∀ (W' : World) (L : Option Addr) (lc : Nat) (u0 u1 u5 u8 u9 u10 u11 u12 u13 u14 u15 u16 u17 u18 u19 u20 u21 u22 u23 u24 u25 u26 u27 u28 u29 u30 u31 u32 u33 u34 u35 u36 u37 u38 u39 u40 u41 u42 u43 u44 u45 u46 u47 u48 u49 u50 u51 u52 u53 u54 u55 u56 u57 u58 u59 u60 u61 u62 u63 u64 u65 u66 u67 u68 u69 u70 u71 u72 u73 u74 u75 u76 u77 u78 u79 u80 u81 u82 u83 u84 u85 u86 u87 u88 u89 u90 u91 u92 u93 u94 u95 u96 : Value), Below W.heap.size W W' → Kd.C k56 W' L ll.length ll → ll.length ≤ lc → N { tmps := #[u0, u1, .pointer (some ⟨H, 0, none⟩), .pointer (some ⟨H + 1, 0, none⟩), .pointer (some ⟨H + 1 + 1, 0, none⟩), u5, .slice L ll.length lc, .int .i64 e, u8, u9, u10, u11, u12, u13, u14, u15, u16, u17, u18, u19, u20, u21, u22, u23, u24, u25, u26, u27, u28, u29, u30, u31, u32, u33, u34, u35, u36, u37, u38, u39, u40, u41, u42, u43, u44, u45, u46, u47, u48, u49, u50, u51, u52, u53, u54, u55, u56, u57, u58, u59, u60, u61, u62, u63, u64, u65, u66, u67, u68, u69, u70, u71, u72, u73, u74, u75, u76, u77, u78, u79, u80, u81, u82, u83, u84, u85, u86, u87, u88, u89, u90, u91, u92, u93, u94, u95, u96], defers := [] } W')) (u0 u1 u6 u7 u8 u9 u10 u11 u12 u13 u14 u15 u16 u17 u18 u19 u20 u21 u22 u23 u24 u25 u26 u27 u28 u29 u30 u31 u32 u33 u34 u35 u36 u37 u38 u39 u40 u41 u42 u43 u44 u45 u46 u47 u48 u49 u50 u51 u52 u53 u54 u55 u56 u57 u58 u59 u60 u61 u62 u63 u64 u65 u66 u67 u68 u69 u70 u71 u72 u73 u74 u75 u76 u77 u78 u79 u80 u81 u82 u83 u84 u85 u86 u87 u88 u89 u90 u91 u92 u93 u94 u95 u96 : Value) :
    apply_r5.wp Tryz.prog (Qm N) { tmps := #[u0, u1, .pointer (some ⟨H, 0, none⟩), .pointer (some ⟨H + 1, 0, none⟩), .pointer (some ⟨H + 1 + 1, 0, none⟩), .slice (some ad) 1 ac, u6, u7, u8, u9, u10, u11, u12, u13, u14, u15, u16, u17, u18, u19, u20, u21, u22, u23, u24, u25, u26, u27, u28, u29, u30, u31, u32, u33, u34, u35, u36, u37, u38, u39, u40, u41, u42, u43, u44, u45, u46, u47, u48, u49, u50, u51, u52, u53, u54, u55, u56, u57, u58, u59, u60, u61, u62, u63, u64, u65, u66, u67, u68, u69, u70, u71, u72, u73, u74, u75, u76, u77, u78, u79, u80, u81, u82, u83, u84, u85, u86, u87, u88, u89, u90, u91, u92, u93, u94, u95, u96], defers := [] } W := by
  simp only [apply_r5, Tryz.f17]
  have kr3 := blk_cell pa.out.r 3
  go_wp2
  go_region_with (go_at_call 9; refine (part_Parse.calls k v0 (sb.length : Int) ll e _ hp.out).mono ?_; rintro e_ w3 ⟨vs, rfl, hR3, hb3⟩; obtain ⟨D, dc, rfl, hdc, hD⟩ := Kd.R_reads hR3; clear hR3; replace hb3 := Aside0.mk hb3; replace hD := Aside0.mk hD)
  all_goals exact hN.out _ _ _ _ _ _ _ _ _ _ _ _ _ _ _ _ _ _ _ _ _ _ _ _ _ _ _ _ _ _ _ _ _ _ _ _ _ _ _ _ _ _ _ _ _ _ _ _ _ _ _ _ _ _ _ _ _ _ _ _ _ _ _ _ _ _ _ _ _ _ _ _ _ _ _ _ _ _ _ _ _ _ _ _ _ _ _ _ _ _ _ _ _ _ _ (Below.trans (Drawn0.below ⟨_, rfl⟩) hb3.out) hD.out hdc
noncomputable def apply_c3 : Code := match Tryz.f17.body with | some (.seq _ (.seq _ (.seq _ (.seq r _)))) => r | _ => .skip
theorem apply_p3_eq : apply_p3 = .seq apply_c3 apply_p5 := rfl
set_option maxHeartbeats 4000000 in
set_option maxRecDepth 100000 in
theorem apply_3q (H : Nat) (w : World) (q0 q1 : ByteArray) (A2 : Option Addr) (c2 : Nat) (l2 : List S50) (A3 : Option Addr) (n3 c3 : Nat) (s0 : Int) (s1 : ByteArray) (sf : List S50) (sb : List Int) (E2 : Option Addr) (g2 : Nat) (E3 : Option Addr) (g3 : Nat) (W : World) (pa : Aside0 (PA H w q0 q1 A2 c2 l2 A3 n3 c3 s0 s1 sf sb E2 g2 E3 g3 W)) (AA : Option Addr) (an ac : Nat) (hm : q0 ≠ ⟨#[71, 69, 84]⟩) (u0 u1 u6 u7 u8 u9 u10 u11 u12 u13 u14 u15 u16 u17 u18 u19 u20 u21 u22 u23 u24 u25 u26 u27 u28 u29 u30 u31 u32 u33 u34 u35 u36 u37 u38 u39 u40 u41 u42 u43 u44 u45 u46 u47 u48 u49 u50 u51 u52 u53 u54 u55 u56 u57 u58 u59 u60 u61 u62 u63 u64 u65 u66 u67 u68 u69 u70 u71 u72 u73 u74 u75 u76 u77 u78 u79 u80 u81 u82 u83 u84 u85 u86 u87 u88 u89 u90 u91 u92 u93 u94 u95 u96 : Value) :
    apply_p3.wp Tryz.prog (bodyPost Tryz.prog Tryz.f17 (ApplyPost w s0 s1 sf sb)) { tmps := #[u0, u1, .pointer (some ⟨H, 0, none⟩), .pointer (some ⟨H + 1, 0, none⟩), .pointer (some ⟨H + 1 + 1, 0, none⟩), .slice AA an ac, u6, u7, u8, u9, u10, u11, u12, u13, u14, u15, u16, u17, u18, u19, u20, u21, u22, u23, u24, u25, u26, u27, u28, u29, u30, u31, u32, u33, u34, u35, u36, u37, u38, u39, u40, u41, u42, u43, u44, u45, u46, u47, u48, u49, u50, u51, u52, u53, u54, u55, u56, u57, u58, u59, u60, u61, u62, u63, u64, u65, u66, u67, u68, u69, u70, u71, u72, u73, u74, u75, u76, u77, u78, u79, u80, u81, u82, u83, u84, u85, u86, u87, u88, u89, u90, u91, u92, u93, u94, u95, u96], defers := [] } W := by
  obtain ⟨Q, hQ⟩ : ∃ Q, Q = bodyPost Tryz.prog Tryz.f17 (ApplyPost w s0 s1 sf sb) := ⟨_, rfl⟩
  rw [← hQ]
  simp only [apply_p3, Tryz.f17]
  replace hQ := Aside0.mk hQ
  have hu37 := Tryz.underlying37
  have hu35 := Tryz.underlying35
  have hu50 := Tryz.underlying50
  have cq1 : ¬ q0.toList = [71, 69, 84] := fun h => hm (ba_eq (by rw [← ByteArray.toList_eq, h]))
  have kq0 := blk_cell pa.out.q 0
  have kr0 := blk_cell pa.out.r 0
  have kr1 := blk_cell pa.out.r 1
  have kr2 := blk_cell pa.out.r 2
  have kr3 := blk_cell pa.out.r 3
  obtain ⟨⟨z0, f0⟩, ⟨z1, f1⟩, ⟨z2, f2⟩, ⟨z3, f3⟩⟩ := put4_way (.int .i64 s0) (.string s1) (.slice E2 sf.length g2) pa.out.z
  go_wp2
  rw [hQ.out]
  refine bodyPost_ret (results_cell_row rfl _ _ (H + 1 + 1) 37 #[.int .i64 s0, .string s1, .slice E2 sf.length g2, .slice E3 sb.length g3] (0, 0) _ rfl (put4_box _ _ _ _ pa.out.z) Tryz.underlying37 rfl (by kernel_rfl)) rfl ?_
  exact pa.out.told
set_option maxHeartbeats 4000000 in
set_option maxRecDepth 100000 in
theorem apply_3s (H : Nat) (w : World) (q0 q1 : ByteArray) (A2 : Option Addr) (c2 : Nat) (l2 : List S50) (A3 : Option Addr) (n3 c3 : Nat) (s0 : Int) (s1 : ByteArray) (sf : List S50) (sb : List Int) (E2 : Option Addr) (g2 : Nat) (E3 : Option Addr) (g3 : Nat) (W : World) (pa : Aside0 (PA H w q0 q1 A2 c2 l2 A3 n3 c3 s0 s1 sf sb E2 g2 E3 g3 W)) (AA : Option Addr) (an ac : Nat) (hm : q0 = ⟨#[71, 69, 84]⟩) (hs : s0 ≠ 200) (u0 u1 u6 u7 u8 u9 u10 u11 u12 u13 u14 u15 u16 u17 u18 u19 u20 u21 u22 u23 u24 u25 u26 u27 u28 u29 u30 u31 u32 u33 u34 u35 u36 u37 u38 u39 u40 u41 u42 u43 u44 u45 u46 u47 u48 u49 u50 u51 u52 u53 u54 u55 u56 u57 u58 u59 u60 u61 u62 u63 u64 u65 u66 u67 u68 u69 u70 u71 u72 u73 u74 u75 u76 u77 u78 u79 u80 u81 u82 u83 u84 u85 u86 u87 u88 u89 u90 u91 u92 u93 u94 u95 u96 : Value) :
    apply_p3.wp Tryz.prog (bodyPost Tryz.prog Tryz.f17 (ApplyPost w s0 s1 sf sb)) { tmps := #[u0, u1, .pointer (some ⟨H, 0, none⟩), .pointer (some ⟨H + 1, 0, none⟩), .pointer (some ⟨H + 1 + 1, 0, none⟩), .slice AA an ac, u6, u7, u8, u9, u10, u11, u12, u13, u14, u15, u16, u17, u18, u19, u20, u21, u22, u23, u24, u25, u26, u27, u28, u29, u30, u31, u32, u33, u34, u35, u36, u37, u38, u39, u40, u41, u42, u43, u44, u45, u46, u47, u48, u49, u50, u51, u52, u53, u54, u55, u56, u57, u58, u59, u60, u61, u62, u63, u64, u65, u66, u67, u68, u69, u70, u71, u72, u73, u74, u75, u76, u77, u78, u79, u80, u81, u82, u83, u84, u85, u86, u87, u88, u89, u90, u91, u92, u93, u94, u95, u96], defers := [] } W := by
  obtain ⟨Q, hQ⟩ : ∃ Q, Q = bodyPost Tryz.prog Tryz.f17 (ApplyPost w s0 s1 sf sb) := ⟨_, rfl⟩
  rw [← hQ]
  simp only [apply_p3, Tryz.f17]
  replace hQ := Aside0.mk hQ
  have hu37 := Tryz.underlying37
  have hu35 := Tryz.underlying35
  have hu50 := Tryz.underlying50
  subst hm
  have cs : ¬ s0 = 200 := hs
  have cs' : (s0 != 200) = true := bne_iff_ne.2 hs
  have kq0 := blk_cell pa.out.q 0
  have kr0 := blk_cell pa.out.r 0
  have kr1 := blk_cell pa.out.r 1
  have kr2 := blk_cell pa.out.r 2
  have kr3 := blk_cell pa.out.r 3
  obtain ⟨⟨z0, f0⟩, ⟨z1, f1⟩, ⟨z2, f2⟩, ⟨z3, f3⟩⟩ := put4_way (.int .i64 s0) (.string s1) (.slice E2 sf.length g2) pa.out.z
  go_wp2
  rw [hQ.out]
  refine bodyPost_ret (results_cell_row rfl _ _ (H + 1 + 1) 37 #[.int .i64 s0, .string s1, .slice E2 sf.length g2, .slice E3 sb.length g3] (0, 0) _ rfl (put4_box _ _ _ _ pa.out.z) Tryz.underlying37 rfl (by kernel_rfl)) rfl ?_
  exact pa.out.told
set_option maxHeartbeats 4000000 in
set_option maxRecDepth 100000 in
theorem apply_3a (H : Nat) (w : World) (q0 q1 : ByteArray) (A2 : Option Addr) (c2 : Nat) (l2 : List S50) (A3 : Option Addr) (n3 c3 : Nat) (s0 : Int) (s1 : ByteArray) (sf : List S50) (sb : List Int) (E2 : Option Addr) (g2 : Nat) (E3 : Option Addr) (g3 : Nat) (W : World) (pa : Aside0 (PA H w q0 q1 A2 c2 l2 A3 n3 c3 s0 s1 sf sb E2 g2 E3 g3 W)) (AA : Option Addr) (an ac : Nat) (hm : q0 = ⟨#[71, 69, 84]⟩) (hs : s0 = 200) (han : an ≠ 1) (u0 u1 u6 u7 u8 u9 u10 u11 u12 u13 u14 u15 u16 u17 u18 u19 u20 u21 u22 u23 u24 u25 u26 u27 u28 u29 u30 u31 u32 u33 u34 u35 u36 u37 u38 u39 u40 u41 u42 u43 u44 u45 u46 u47 u48 u49 u50 u51 u52 u53 u54 u55 u56 u57 u58 u59 u60 u61 u62 u63 u64 u65 u66 u67 u68 u69 u70 u71 u72 u73 u74 u75 u76 u77 u78 u79 u80 u81 u82 u83 u84 u85 u86 u87 u88 u89 u90 u91 u92 u93 u94 u95 u96 : Value) :
    apply_p3.wp Tryz.prog (bodyPost Tryz.prog Tryz.f17 (ApplyPost w s0 s1 sf sb)) { tmps := #[u0, u1, .pointer (some ⟨H, 0, none⟩), .pointer (some ⟨H + 1, 0, none⟩), .pointer (some ⟨H + 1 + 1, 0, none⟩), .slice AA an ac, u6, u7, u8, u9, u10, u11, u12, u13, u14, u15, u16, u17, u18, u19, u20, u21, u22, u23, u24, u25, u26, u27, u28, u29, u30, u31, u32, u33, u34, u35, u36, u37, u38, u39, u40, u41, u42, u43, u44, u45, u46, u47, u48, u49, u50, u51, u52, u53, u54, u55, u56, u57, u58, u59, u60, u61, u62, u63, u64, u65, u66, u67, u68, u69, u70, u71, u72, u73, u74, u75, u76, u77, u78, u79, u80, u81, u82, u83, u84, u85, u86, u87, u88, u89, u90, u91, u92, u93, u94, u95, u96], defers := [] } W := by
  obtain ⟨Q, hQ⟩ : ∃ Q, Q = bodyPost Tryz.prog Tryz.f17 (ApplyPost w s0 s1 sf sb) := ⟨_, rfl⟩
  rw [← hQ]
  simp only [apply_p3, Tryz.f17]
  replace hQ := Aside0.mk hQ
  have hu37 := Tryz.underlying37
  have hu35 := Tryz.underlying35
  have hu50 := Tryz.underlying50
  subst hm; subst hs
  have ca : ¬ (an : Int) = 1 := by omega
  have ca' : ((an : Int) != 1) = true := bne_iff_ne.2 (by omega)
  have kq0 := blk_cell pa.out.q 0
  have kr0 := blk_cell pa.out.r 0
  have kr1 := blk_cell pa.out.r 1
  have kr2 := blk_cell pa.out.r 2
  have kr3 := blk_cell pa.out.r 3
  obtain ⟨⟨z0, f0⟩, ⟨z1, f1⟩, ⟨z2, f2⟩, ⟨z3, f3⟩⟩ := put4_way (.int .i64 200) (.string s1) (.slice E2 sf.length g2) pa.out.z
  go_wp2
  rw [hQ.out]
  refine bodyPost_ret (results_cell_row rfl _ _ (H + 1 + 1) 37 #[.int .i64 200, .string s1, .slice E2 sf.length g2, .slice E3 sb.length g3] (0, 0) _ rfl (put4_box _ _ _ _ pa.out.z) Tryz.underlying37 rfl (by kernel_rfl)) rfl ?_
  exact pa.out.told
end Go.Proofs.YtacgmcmnnogbbaaGreatDoor.PX

namespace Go.Proofs.YtacgmcmnnogbbaaGreatDoor.PX
open Go.RowKit Go.Proofs Go.Proofs.YtacgmcmnnogbbaaGreatDoorW.PrintWords Go.Proofs.YtacgmcmnnogbbaaGreatDoorW.PrintLast Go.Proofs.YtacgmcmnnogbbaaGreatDoorW.PrintMore
set_option linter.unusedVariables false
set_option linter.unusedSimpArgs false
set_option maxHeartbeats 4000000 in
set_option maxRecDepth 100000 in
theorem apply_3ok (H : Nat) (w : World) (q0 q1 : ByteArray) (A2 : Option Addr) (c2 : Nat) (l2 : List S50) (A3 : Option Addr) (n3 c3 : Nat) (s0 : Int) (s1 : ByteArray) (sf : List S50) (sb : List Int) (E2 : Option Addr) (g2 : Nat) (E3 : Option Addr) (g3 : Nat) (W : World) (pa : Aside0 (PA H w q0 q1 A2 c2 l2 A3 n3 c3 s0 s1 sf sb E2 g2 E3 g3 W)) (k : Nat) (AA : Option Addr) (ac : Nat) (hm : q0 = ⟨#[71, 69, 84]⟩) (hs : s0 = 200) (hc2 : l2.length ≤ c2) (hh : Aside0 (part_Holds.f k l2 200 s1 sf sb = some true)) (N : Act → World → Prop)
    (hN : Aside0 (∀ (W' : World) (u0 u1 u6 u7 u8 u9 u10 u11 u12 u13 u14 u15 u16 u17 u18 u19 u20 u21 u22 u23 u24 u25 u26 u27 u28 u29 u30 u31 u32 u33 u34 u35 u36 u37 u38 u39 u40 u41 u42 u43 u44 u45 u46 u47 u48 u49 u50 u51 u52 u53 u54 u55 u56 u57 u58 u59 u60 u61 u62 u63 u64 u65 u66 u67 u68 u69 u70 u71 u72 u73 u74 u75 u76 u77 u78 u79 u80 u81 u82 u83 u84 u85 u86 u87 u88 u89 u90 u91 u92 u93 u94 u95 u96 : Value), Below W.heap.size W W' → N { tmps := #[u0, u1, .pointer (some ⟨H, 0, none⟩), .pointer (some ⟨H + 1, 0, none⟩), .pointer (some ⟨H + 1 + 1, 0, none⟩), .slice AA 1 ac, u6, u7, u8, u9, u10, u11, u12, u13, u14, u15, u16, u17, u18, u19, u20, u21, u22, u23, u24, u25, u26, u27, u28, u29, u30, u31, u32, u33, u34, u35, u36, u37, u38, u39, u40, u41, u42, u43, u44, u45, u46, u47, u48, u49, u50, u51, u52, u53, u54, u55, u56, u57, u58, u59, u60, u61, u62, u63, u64, u65, u66, u67, u68, u69, u70, u71, u72, u73, u74, u75, u76, u77, u78, u79, u80, u81, u82, u83, u84, u85, u86, u87, u88, u89, u90, u91, u92, u93, u94, u95, u96], defers := [] } W')) (u0 u1 u6 u7 u8 u9 u10 u11 u12 u13 u14 u15 u16 u17 u18 u19 u20 u21 u22 u23 u24 u25 u26 u27 u28 u29 u30 u31 u32 u33 u34 u35 u36 u37 u38 u39 u40 u41 u42 u43 u44 u45 u46 u47 u48 u49 u50 u51 u52 u53 u54 u55 u56 u57 u58 u59 u60 u61 u62 u63 u64 u65 u66 u67 u68 u69 u70 u71 u72 u73 u74 u75 u76 u77 u78 u79 u80 u81 u82 u83 u84 u85 u86 u87 u88 u89 u90 u91 u92 u93 u94 u95 u96 : Value) :
    apply_c3.wp Tryz.prog (Qm N) { tmps := #[u0, u1, .pointer (some ⟨H, 0, none⟩), .pointer (some ⟨H + 1, 0, none⟩), .pointer (some ⟨H + 1 + 1, 0, none⟩), .slice AA 1 ac, u6, u7, u8, u9, u10, u11, u12, u13, u14, u15, u16, u17, u18, u19, u20, u21, u22, u23, u24, u25, u26, u27, u28, u29, u30, u31, u32, u33, u34, u35, u36, u37, u38, u39, u40, u41, u42, u43, u44, u45, u46, u47, u48, u49, u50, u51, u52, u53, u54, u55, u56, u57, u58, u59, u60, u61, u62, u63, u64, u65, u66, u67, u68, u69, u70, u71, u72, u73, u74, u75, u76, u77, u78, u79, u80, u81, u82, u83, u84, u85, u86, u87, u88, u89, u90, u91, u92, u93, u94, u95, u96], defers := [] } W := by
  simp only [apply_c3, Tryz.f17]
  have hu37 := Tryz.underlying37
  have hu35 := Tryz.underlying35
  subst hm; subst hs
  have kq0 := blk_cell pa.out.q 0
  have kq2 := blk_cell pa.out.q 2
  have kr0 := blk_cell pa.out.r 0
  have kr1 := blk_cell pa.out.r 1
  have kr2 := blk_cell pa.out.r 2
  have kr3 := blk_cell pa.out.r 3
  go_wp2_with (go_at_call 22; refine (part_Holds.calls k A2 c2 l2 200 s1 E2 g2 sf E3 g3 sb true _ pa.out.cq hc2 hh.out).mono ?_; rintro e w1 ⟨rfl, hb1⟩; replace hb1 := Aside0.mk hb1)
  exact hN.out _ _ _ _ _ _ _ _ _ _ _ _ _ _ _ _ _ _ _ _ _ _ _ _ _ _ _ _ _ _ _ _ _ _ _ _ _ _ _ _ _ _ _ _ _ _ _ _ _ _ _ _ _ _ _ _ _ _ _ _ _ _ _ _ _ _ _ _ _ _ _ _ _ _ _ _ _ _ _ _ _ _ _ _ _ _ _ _ _ _ _ _ _ _ hb1.out
end Go.Proofs.YtacgmcmnnogbbaaGreatDoor.PX

namespace Go.Proofs.YtacgmcmnnogbbaaGreatDoor.PX
open Go.RowKit Go.Proofs Go.Proofs.YtacgmcmnnogbbaaGreatDoorW.PrintWords Go.Proofs.YtacgmcmnnogbbaaGreatDoorW.PrintLast Go.Proofs.YtacgmcmnnogbbaaGreatDoorW.PrintMore
set_option linter.unusedVariables false
set_option linter.unusedSimpArgs false
noncomputable def apply_r0 : Code := match Tryz.f17.body with | some (.seq r _) => r | _ => .skip
noncomputable def apply_r1 : Code := match Tryz.f17.body with | some (.seq _ (.seq r _)) => r | _ => .skip
noncomputable def apply_r2 : Code := match Tryz.f17.body with | some (.seq _ (.seq _ (.seq r _))) => r | _ => .skip
theorem apply_body : Tryz.f17.body = some (.seq apply_r0 (.seq apply_r1 (.seq apply_r2 apply_p3))) := rfl
set_option maxHeartbeats 4000000 in
set_option maxRecDepth 100000 in
theorem apply_head (k : Nat) (q0 q1 : ByteArray) (A2 : Option Addr) (c2 : Nat) (l2 : List S50) (A3 : Option Addr) (c3 n3 : Nat) (a0 : Int) (a1 : ByteArray) (B2 : Option Addr) (d2 : Nat) (m2 : List S50) (B3 : Option Addr) (d3 : Nat) (m3 : List Int) (w : World)
    (s0 : Int) (s1 : ByteArray) (sf : List S50) (sb : List Int) (asks : List ByteArray) (post : Ending → World → Prop)
    (hc : part_copied.f a0 a1 m2 m3 = some (s0, s1, sf, sb)) (hall : head_All.f k l2 ⟨#[82, 97, 110, 103, 101]⟩ = some asks)
    (hq : Kd.C k50 w A2 l2.length l2) (hq' : l2.length ≤ c2) (hr2 : Kd.C k50 w B2 m2.length m2) (hr2' : m2.length ≤ d2) (hr3 : Kd.C (Kd.int .u8) w B3 m3.length m3) (hr3' : m3.length ≤ d3)
    (h3 : Aside0 (∀ (W : World) (E2 : Option Addr) (g2 : Nat) (E3 : Option Addr) (g3 : Nat) (AA : Option Addr) (ac : Nat) (u0 u1 u6 u7 u8 u9 u10 u11 u12 u13 u14 u15 u16 u17 u18 u19 u20 u21 u22 u23 u24 u25 u26 u27 u28 u29 u30 u31 u32 u33 u34 u35 u36 u37 u38 u39 u40 u41 u42 u43 u44 u45 u46 u47 u48 u49 u50 u51 u52 u53 u54 u55 u56 u57 u58 u59 u60 u61 u62 u63 u64 u65 u66 u67 u68 u69 u70 u71 u72 u73 u74 u75 u76 u77 u78 u79 u80 u81 u82 u83 u84 u85 u86 u87 u88 u89 u90 u91 u92 u93 u94 u95 u96 : Value), PA w.heap.size w q0 q1 A2 c2 l2 A3 n3 c3 s0 s1 sf sb E2 g2 E3 g3 W → Kd.C Kd.string W AA asks.length asks → asks.length ≤ ac →
      apply_p3.wp Tryz.prog (bodyPost Tryz.prog Tryz.f17 post) { tmps := #[u0, u1, .pointer (some ⟨w.heap.size, 0, none⟩), .pointer (some ⟨w.heap.size + 1, 0, none⟩), .pointer (some ⟨w.heap.size + 1 + 1, 0, none⟩), .slice AA asks.length ac, u6, u7, u8, u9, u10, u11, u12, u13, u14, u15, u16, u17, u18, u19, u20, u21, u22, u23, u24, u25, u26, u27, u28, u29, u30, u31, u32, u33, u34, u35, u36, u37, u38, u39, u40, u41, u42, u43, u44, u45, u46, u47, u48, u49, u50, u51, u52, u53, u54, u55, u56, u57, u58, u59, u60, u61, u62, u63, u64, u65, u66, u67, u68, u69, u70, u71, u72, u73, u74, u75, u76, u77, u78, u79, u80, u81, u82, u83, u84, u85, u86, u87, u88, u89, u90, u91, u92, u93, u94, u95, u96], defers := [] } W)) :
    Calls Tryz.prog 17 #[.agg #[.string q0, .string q1, .slice A2 l2.length c2, .slice A3 n3 c3], .agg #[.int .i64 a0, .string a1, .slice B2 m2.length d2, .slice B3 m3.length d3]] w post := by
  obtain ⟨W0, hW0⟩ : ∃ W0, W0 = ((w.alloc (Obj.cells #[.string q0, .string q1, .slice A2 l2.length c2, .slice A3 n3 c3] 35)).alloc (Obj.cells #[.int .i64 a0, .string a1, .slice B2 m2.length d2, .slice B3 m3.length d3] 37)).alloc (Obj.cells #[.int .i64 0, .string ⟨#[]⟩, .slice none 0 0, .slice none 0 0] 37) := ⟨_, rfl⟩
  have hB0 : Below w.heap.size w W0 := by rw [hW0]; exact (((Below.refl _ w).alloc (Nat.le_refl _) _).alloc (by simp) _).alloc (by simp; omega) _
  have hz0 : W0.heap.size = w.heap.size + 3 := by rw [hW0]; simp
  have bq : W0.heap[w.heap.size]? = some (.cells #[.string q0, .string q1, .slice A2 l2.length c2, .slice A3 n3 c3] 35 (0, 0)) := by rw [hW0]; exact blk_alloc (blk_alloc (blk_new w _) _) _
  have br : W0.heap[w.heap.size + 1]? = some (.cells #[.int .i64 a0, .string a1, .slice B2 m2.length d2, .slice B3 m3.length d3] 37 (0, 0)) := by
    rw [hW0]; have := blk_alloc (blk_new (w.alloc (Obj.cells #[.string q0, .string q1, .slice A2 l2.length c2, .slice A3 n3 c3] 35)) (Obj.cells #[.int .i64 a0, .string a1, .slice B2 m2.length d2, .slice B3 m3.length d3] 37)) (Obj.cells #[.int .i64 0, .string ⟨#[]⟩, .slice none 0 0, .slice none 0 0] 37); rwa [World.size_alloc] at this
  have bz : W0.heap[w.heap.size + 1 + 1]? = some (.cells #[.int .i64 0, .string ⟨#[]⟩, .slice none 0 0, .slice none 0 0] 37 (0, 0)) := by
    rw [hW0]; have := blk_new ((w.alloc (Obj.cells #[.string q0, .string q1, .slice A2 l2.length c2, .slice A3 n3 c3] 35)).alloc (Obj.cells #[.int .i64 a0, .string a1, .slice B2 m2.length d2, .slice B3 m3.length d3] 37)) (Obj.cells #[.int .i64 0, .string ⟨#[]⟩, .slice none 0 0, .slice none 0 0] 37); rwa [World.size_alloc, World.size_alloc] at this
  have hC := Aside0.mk (part_copied.calls a0 a1 B2 d2 m2 B3 d3 m3 s0 s1 sf sb W0 (Kd.C_below hr2 hB0) hr2' (Kd.C_below hr3 hB0) hr3' hc)
  have BQ := Aside0.mk bq
  have BR := Aside0.mk br
  have BZ := Aside0.mk bz
  have HB0 := Aside0.mk hB0
  have HZ0 := Aside0.mk hz0
  have HQ_ := Aside0.mk hq
  have W0eq := Aside0.mk hW0
  rw [hW0] at hC
  clear hr2 hr3 hc bq br bz hB0 hz0 hq hW0
  have hu37 := Tryz.underlying37
  have hu35 := Tryz.underlying35
  refine calls_of_wp Tryz.func17 apply_body ?_
  simp only [Tryz.ntmps17, List.size_toArray, List.length_cons, List.length_nil, Nat.reduceAdd, Nat.reduceSub, Array.replicate_succ, Array.replicate_zero, List.push_toArray, List.append_toArray, List.nil_append, List.cons_append]
  obtain ⟨Q, hQ⟩ : ∃ Q, Q = bodyPost Tryz.prog Tryz.f17 post := ⟨_, rfl⟩
  rw [← hQ] at h3 ⊢
  clear hQ
  simp only [apply_r0, apply_r1, apply_r2, Tryz.f17]
  go_wp2_with (first | (go_at_call 42; refine hC.out.mono ?_; rintro e W1 ⟨v2, v3, rfl, hR2, hR3, hb1⟩; rw [← W0eq.out] at hR2 hR3 hb1; obtain ⟨E2, g2, rfl, hg2, hx2⟩ := Kd.R_reads hR2; obtain ⟨E3, g3, rfl, hg3, hx3⟩ := Kd.R_reads hR3; clear hx2 hx3; have bq1 := Aside0.mk (blk_below BQ.out hb1); have br1 := Aside0.mk (blk_below BR.out hb1); have bz1 := Aside0.mk (blk_below BZ.out hb1); obtain ⟨⟨z0, f0⟩, ⟨z1, f1⟩, ⟨z2, f2⟩, ⟨z3, f3⟩⟩ := put4_way (.int .i64 s0) (.string s1) (.slice E2 sf.length g2) br1.out; have kq2 := blk_cell ((put4_far (W := W1) (g := w.heap.size + 1) (.int .i64 s0) (.string s1) (.slice E2 sf.length g2) (.slice E3 sb.length g3) w.heap.size (by omega)).trans bq1.out) 2; unfold put4 at kq2; replace hR2 := Aside0.mk hR2; replace hR3 := Aside0.mk hR3; have hbb := Aside0.mk (HB0.out.trans (hb1.mono (by have := HZ0.out; omega))); clear hb1) | (go_at_call 43; refine (head_All.calls k A2 c2 l2 _ asks _ (Kd.C_below HQ_.out (hbb.out.trans (put4_below (W := W1) (g := w.heap.size + 1) (.int .i64 s0) (.string s1) (.slice E2 sf.length g2) (.slice E3 sb.length g3) (by omega)))) hq' hall).mono ?_; rintro e W2 ⟨va, rfl, hRa, hb2⟩; obtain ⟨AA, ac, rfl, hac, hCa⟩ := Kd.R_reads hRa; clear hRa; replace hCa := Aside0.mk hCa; replace hb2 := Aside0.mk hb2))
  have gr := put4_grown W1 (w.heap.size + 1) (.int .i64 s0) (.string s1) (.slice E2 sf.length g2) (.slice E3 sb.length g3)
  have hz := HZ0.out
  refine h3.out _ E2 g2 E3 g3 AA ac _ _ _ _ _ _ _ _ _ _ _ _ _ _ _ _ _ _ _ _ _ _ _ _ _ _ _ _ _ _ _ _ _ _ _ _ _ _ _ _ _ _ _ _ _ _ _ _ _ _ _ _ _ _ _ _ _ _ _ _ _ _ _ _ _ _ _ _ _ _ _ _ _ _ _ _ _ _ _ _ _ _ _ _ _ _ _ _ _ _ _ _ _ ?_ hCa.out hac
  have p : PA w.heap.size w q0 q1 A2 c2 l2 A3 n3 c3 s0 s1 sf sb E2 g2 E3 g3 (put4 W1 (w.heap.size + 1) (.int .i64 s0) (.string s1) (.slice E2 sf.length g2) (.slice E3 sb.length g3)) :=
    ⟨(put4_far _ _ _ _ _ (by omega)).trans bq1.out, put4_box _ _ _ _ br1.out, (put4_far _ _ _ _ _ (by omega)).trans bz1.out, hz ▸ Kd.R_grown1 hR2.out rfl gr (out_of_own hR2.out (by omega)), hz ▸ Kd.R_grown1 hR3.out rfl gr (out_of_own hR3.out (by omega)),
      Kd.C_below HQ_.out (hbb.out.trans (put4_below _ _ _ _ (by omega))), hbb.out.trans (put4_below _ _ _ _ (by omega)), rfl⟩
  exact p.lies hb2.out
end Go.Proofs.YtacgmcmnnogbbaaGreatDoor.PX

namespace Go.Proofs.YtacgmcmnnogbbaaGreatDoor.PX
open Go.RowKit Go.Proofs Go.Proofs.YtacgmcmnnogbbaaGreatDoorW.PrintWords Go.Proofs.YtacgmcmnnogbbaaGreatDoorW.PrintLast Go.Proofs.YtacgmcmnnogbbaaGreatDoorW.PrintMore
set_option linter.unusedVariables false
set_option linter.unusedSimpArgs false
theorem R_one56 {W : World} {base : Nat} {ok : Nat → Prop} {J : Option Addr} {jc : Nat} {j : List S56} {x : S56} (hx : j = [x]) (h : Kd.R k56 56 W base ok (.slice J j.length jc) j) :
    ∃ g, J = some ⟨g, 0, none⟩ ∧ W.cell? ⟨g, 0, none⟩ = some (.int .i64 x.f0) ∧ W.cell? ⟨g, 1, none⟩ = some (.int .i64 x.f1) := by
  subst hx
  have hC := (Kd.R_reads' h).2.2
  obtain ⟨_, inner, ho, _⟩ := h
  rcases ho.2 with ⟨hv, _⟩ | ⟨g, cap, cur, hv, _⟩
  · exact absurd hv (by simp)
  · injection hv with h1 _ _
    subst h1
    obtain ⟨ad, ha, c0, c1⟩ := at_T56 hC 0 (by decide) (by simp)
    obtain rfl : (⟨g, 0, none⟩ : Addr) = ad := by injection ha
    refine ⟨g, rfl, ?_, ?_⟩
    · simpa [add_plain, rd_T56] using c0
    · simpa [add_plain, rd_T56] using c1
theorem grown1 (W : World) (g i : Nat) (v : Value) : W.grownBy (W.setCell ⟨g, i, none⟩ v) (some g) :=
  have b := (Below.refl 0 W).setCell (p := ⟨g, i, none⟩) (Nat.zero_le _) v
  ⟨b.os, b.tape, b.output, b.size, fun j _ hj => Below.heap_setCell W ⟨g, i, none⟩ v j (fun e => hj (by rw [e]))⟩
theorem grown3 (W : World) (g i1 i2 i3 : Nat) (v1 v2 v3 : Value) : W.grownBy (((W.setCell ⟨g, i1, none⟩ v1).setCell ⟨g, i2, none⟩ v2).setCell ⟨g, i3, none⟩ v3).drew (some g) := by
  have h := grown_row (grown_row (grown1 W g i1 v1) (grown1 _ g i2 v2)) (grown1 _ g i3 v3)
  exact ⟨h.os, h.tape, h.output, h.size, h.block⟩
set_option maxHeartbeats 4000000 in
set_option maxRecDepth 100000 in
theorem apply_6one (H : Nat) (w : World) (q0 q1 : ByteArray) (A2 : Option Addr) (c2 : Nat) (l2 : List S50) (A3 : Option Addr) (n3 c3 : Nat) (s0 : Int) (s1 : ByteArray) (sf : List S50) (sb : List Int) (E2 : Option Addr) (g2 : Nat) (E3 : Option Addr) (g3 : Nat) (W : World) (pa : Aside0 (PA H w q0 q1 A2 c2 l2 A3 n3 c3 s0 s1 sf sb E2 g2 E3 g3 W)) (k : Nat) (ll : List S56) (x : S56) (nf : List S50) (sz t1 t2 : ByteArray) (L : Option Addr) (lc : Nat) (hl : Aside0 (Kd.C k56 W L ll.length ll)) (hlc : ll.length ≤ lc) (hsz : Aside0 (ItoaAt w (sb.length : Int) sz)) (hj : Aside0 (part_Join.f k ll = some [x]))
    (b0 : 0 ≤ x.f0) (b1 : x.f0 ≤ x.f1) (b2 : x.f1 ≤ (sb.length : Int)) (ht1 : Aside0 (ItoaAt w x.f0 t1)) (ht2 : Aside0 (ItoaAt w (wrap64 (x.f1 - 1)) t2)) (hset : Aside0 (head_Set.f k sf ⟨#[67, 111, 110, 116, 101, 110, 116, 45, 82, 97, 110, 103, 101]⟩ ((((((⟨#[98, 121, 116, 101, 115, 32]⟩ : ByteArray) ++ t1) ++ (⟨#[45]⟩ : ByteArray)) ++ t2) ++ (⟨#[47]⟩ : ByteArray)) ++ sz) = some nf))
    (l1 : t1.size ≤ 1000) (l2_ : t2.size ≤ 1000) (l3 : sz.size ≤ 1000) (u0 u1 u5 u8 u9 u10 u11 u12 u13 u14 u15 u16 u17 u18 u19 u20 u21 u22 u23 u24 u25 u26 u27 u28 u29 u30 u31 u32 u33 u34 u35 u36 u37 u38 u39 u40 u41 u42 u43 u44 u45 u46 u47 u48 u49 u50 u51 u52 u53 u54 u55 u56 u57 u58 u59 u60 u61 u62 u63 u64 u65 u66 u67 u68 u69 u70 u71 u72 u73 u74 u75 u76 u77 u78 u79 u80 u81 u82 u83 u84 u85 u86 u87 u88 u89 u90 u91 u92 u93 u94 u95 u96 : Value) :
    apply_p6.wp Tryz.prog (bodyPost Tryz.prog Tryz.f17 (ApplyPost w 206 ⟨#[80, 97, 114, 116, 105, 97, 108, 32, 67, 111, 110, 116, 101, 110, 116]⟩ nf ((sb.take x.f1.toNat).drop x.f0.toNat))) { tmps := #[u0, u1, .pointer (some ⟨H, 0, none⟩), .pointer (some ⟨H + 1, 0, none⟩), .pointer (some ⟨H + 1 + 1, 0, none⟩), u5, .slice L ll.length lc, .int .i64 0, u8, u9, u10, u11, u12, u13, u14, u15, u16, u17, u18, u19, u20, u21, u22, u23, u24, u25, u26, u27, u28, u29, u30, u31, u32, u33, u34, u35, u36, u37, u38, u39, u40, u41, u42, u43, u44, u45, u46, u47, u48, u49, u50, u51, u52, u53, u54, u55, u56, u57, u58, u59, u60, u61, u62, u63, u64, u65, u66, u67, u68, u69, u70, u71, u72, u73, u74, u75, u76, u77, u78, u79, u80, u81, u82, u83, u84, u85, u86, u87, u88, u89, u90, u91, u92, u93, u94, u95, u96], defers := [] } W := by
  obtain ⟨j, hjj⟩ : ∃ j : List S56, j = [x] := ⟨_, rfl⟩
  rw [← hjj] at hj
  obtain ⟨Q, hQ⟩ : ∃ Q, Q = bodyPost Tryz.prog Tryz.f17 (ApplyPost w 206 ⟨#[80, 97, 114, 116, 105, 97, 108, 32, 67, 111, 110, 116, 101, 110, 116]⟩ nf ((sb.take x.f1.toNat).drop x.f0.toNat)) := ⟨_, rfl⟩
  rw [← hQ]
  simp only [apply_p6, Tryz.f17]
  replace hQ := Aside0.mk hQ
  have hu37 := Tryz.underlying37
  have hu35 := Tryz.underlying35
  have hu50 := Tryz.underlying50
  have kr3 := blk_cell pa.out.r 3
  have cj0 : (j.length : Int) = 1 := by rw [hjj]; rfl
  have hjx := Aside0.mk hjj
  clear hjj
  go_wp2_with (first | (go_at_call 44; refine (hsz.out _ (by first | exact (pa.out.hH ▸ pa.out.below) | exact pw_below_drewN (pa.out.hH ▸ pa.out.below) _ | exact below_drew1 (pa.out.hH ▸ pa.out.below))).mono ?_; clear hsz; rintro e W1 ⟨rfl, m1⟩; replace m1 := Aside0.mk (below_then (B := W.heap.size) (w := W) (by first | exact Below.refl _ _ | exact pw_below_drewN (Below.refl _ _) _ | exact below_drew1 (Below.refl _ _)) (by exact Nat.le_refl _) m1)) | (go_at_call 12; refine (part_Join.calls k L lc ll j _ (Kd.C_below hl.out (by first | exact m1.out | exact pw_below_drewN m1.out _ | exact below_drew1 m1.out)) hlc hj.out).mono ?_; rintro e W2 ⟨vj, rfl, hR, hb2⟩; obtain ⟨J, jc, rfl, hjc, _⟩ := Kd.R_reads hR; have pa2 := Aside0.mk (pa.out.lies (below_then (B := W.heap.size) (w := W) (by first | exact m1.out | exact pw_below_drewN m1.out _ | exact below_drew1 m1.out) (by exact m1.out.size) hb2)); clear hb2; obtain ⟨jg, rfl, kj0, kj1⟩ := R_one56 hjx.out hR; clear hR; have pa3 := Aside0.mk (pa2.out.lies ((Below.refl _ W2).alloc (Nat.le_refl _) (Obj.cells #[.int .i64 x.f0, .int .i64 x.f1] 56)))))
  rename_i K1 hK1 rj K2 hK2
  refine wp_mono (apply_15 H w q0 q1 A2 c2 l2 A3 n3 c3 s0 s1 sf sb E2 g2 E3 g3 _ pa3 W2.heap.size x.f0 x.f1 (some ⟨jg, 0, none⟩) j.length jc sz (blk_new W2 _) (by have := blk_lt pa2.out.r; omega) b0 b1 b2 K2 _ _ _ _ _ _ _ _ _ _ _ _ _ _ _ _ _ _ _ _ _ _ _ _ _ _ _ _ _ _ _ _ _ _ _ _ _ _ _ _ _ _ _ _ _ _ _ _ _ _ _ _ _ _ _ _ _ _ _ _ _ _ _ _ _ _ _ _ _ _ _ _ _ _ _ _ _ _ _ _ _ _ _ _ _ _ _ _ _ _ _ ?_) ?_
  rotate_left
  · intro e a w h
    cases e <;> first | exact h | exact h.elim
  refine hK2 _ _ ?_
  clear hK2
  obtain ⟨EE, hEE⟩ : ∃ EE, EE = (if g3 = x.f0.toNat then E3 else Option.map (fun a => a.add x.f0.toNat) E3) := ⟨_, rfl⟩
  obtain ⟨gg, hgg⟩ : ∃ gg, gg = g3 - x.f0.toNat := ⟨_, rfl⟩
  rw [← hEE, ← hgg]
  replace hEE := Aside0.mk hEE
  replace hgg := Aside0.mk hgg
  obtain ⟨W3, hW3⟩ : ∃ W3, W3 = W2.alloc (Obj.cells #[.int .i64 x.f0, .int .i64 x.f1] 56) := ⟨_, rfl⟩
  have hxn : W3.heap[W2.heap.size]? = some (.cells #[.int .i64 x.f0, .int .i64 x.f1] 56 (0, 0)) := by rw [hW3]; exact blk_new W2 _
  rw [← hW3] at pa3 ⊢
  have hne : W2.heap.size ≠ H + 1 := by have := blk_lt pa2.out.r; omega
  have hr16 := blk_drew (blk_put (blk_put (blk_put pa3.out.r 0 (.int .i64 206) rfl) 1 (.string ⟨#[80, 97, 114, 116, 105, 97, 108, 32, 67, 111, 110, 116, 101, 110, 116]⟩) rfl) 3 (.slice EE (x.f1.toNat - x.f0.toNat) gg) rfl)
  have hx16 := blk_drew (blk_far (blk_far (blk_far hxn (p := ⟨H + 1, 0, none⟩) hne (.int .i64 206)) (p := ⟨H + 1, 1, none⟩) hne (.string ⟨#[80, 97, 114, 116, 105, 97, 108, 32, 67, 111, 110, 116, 101, 110, 116]⟩)) (p := ⟨H + 1, 3, none⟩) hne (.slice EE (x.f1.toNat - x.f0.toNat) gg))
  have gr15 := grown3 W3 (H + 1) 0 1 3 (.int .i64 206) (.string ⟨#[80, 97, 114, 116, 105, 97, 108, 32, 67, 111, 110, 116, 101, 110, 116]⟩) (.slice EE (x.f1.toNat - x.f0.toNat) gg)
  have z15 := blk_drew (blk_far (blk_far (blk_far pa3.out.z (p := ⟨H + 1, 0, none⟩) (by show H + 1 + 1 ≠ H + 1; omega) (.int .i64 206)) (p := ⟨H + 1, 1, none⟩) (by show H + 1 + 1 ≠ H + 1; omega) (.string ⟨#[80, 97, 114, 116, 105, 97, 108, 32, 67, 111, 110, 116, 101, 110, 116]⟩)) (p := ⟨H + 1, 3, none⟩) (by show H + 1 + 1 ≠ H + 1; omega) (.slice EE (x.f1.toNat - x.f0.toNat) gg))
  have b15 : Below H W3 _ := ((((Below.refl H W3).setCell (p := ⟨H + 1, 0, none⟩) (by show H ≤ H + 1; omega) (.int .i64 206)).setCell (p := ⟨H + 1, 1, none⟩) (by show H ≤ H + 1; omega) (.string ⟨#[80, 97, 114, 116, 105, 97, 108, 32, 67, 111, 110, 116, 101, 110, 116]⟩)).setCell (p := ⟨H + 1, 3, none⟩) (by show H ≤ H + 1; omega) (.slice EE (x.f1.toNat - x.f0.toNat) gg)).drew
  obtain ⟨W15, hW15⟩ : ∃ W15, W15 = (((W3.setCell ⟨H + 1, 0, none⟩ (.int .i64 206)).setCell ⟨H + 1, 1, none⟩ (.string ⟨#[80, 97, 114, 116, 105, 97, 108, 32, 67, 111, 110, 116, 101, 110, 116]⟩)).setCell ⟨H + 1, 3, none⟩ (.slice EE (x.f1.toNat - x.f0.toNat) gg)).drew := ⟨_, rfl⟩
  rw [← hW15] at hr16 hx16 gr15 z15 b15 ⊢
  have R2' := Kd.R_grown1 pa3.out.R2 rfl gr15 (out_of_own pa3.out.R2 (by omega))
  have R3' := Kd.R_grown1 pa3.out.R3 rfl gr15 (out_of_own pa3.out.R3 (by omega))
  have hlt15 := blk_lt z15
  refine wp_mono (apply_16 H W2.heap.size k x.f0 x.f1 sf nf E2 g2 _ _ _ t1 t2 sz W15 (some ⟨jg, 0, none⟩) j.length jc hr16 hx16 ⟨(Kd.R_reads' R2').2.2⟩ (Kd.R_reads' R2').2.1 w ⟨pa3.out.hH ▸ (pa3.out.below.trans b15)⟩ ht1 ht2 hset.out l1 l2_ l3 K1 ⟨?_⟩ _ _ _ _ _ _ _ _ _ _ _ _ _ _ _ _ _ _ _ _ _ _ _ _ _ _ _ _ _ _ _ _ _ _ _ _ _ _ _ _ _ _ _ _ _ _ _ _ _ _ _ _ _ _ _ _ _ _ _ _ _ _ _ _ _ _ _ _ _ _ _ _ _ _ _ _ _ _ _ _ _ _ _ _ _ _ _ _ _ _ _) ?_
  rotate_left
  · intro e a w h
    cases e <;> first | exact h | exact h.elim
  intro W4 D dc v0 v1 v5 v7 v10 v11 v12 v13 v14 v15 v16 v17 v18 v19 v20 v21 v22 v23 v24 v25 v26 v27 v28 v29 v30 v31 v32 v33 v34 v35 v36 v37 v38 v39 v40 v41 v42 v43 v44 v45 v46 v47 v48 v49 v50 v51 v52 v53 v54 v55 v56 v57 v58 v59 v60 v61 v62 v63 v64 v65 v66 v67 v68 v69 v70 v71 v72 v73 v74 v75 v76 v77 v78 v79 v80 v81 v82 v83 v84 v85 v86 v87 v88 v89 v90 v91 v92 v93 v94 v95 v96 hb4 hRn
  refine hK1 _ _ ?_
  clear hK1
  have hr5 := blk_put (blk_below hr16 hb4) 2 (.slice D nf.length dc) rfl
  have hz5 := blk_far (blk_below z15 hb4) (p := ⟨H + 1, 2, none⟩) (by show H + 1 + 1 ≠ H + 1; omega) (.slice D nf.length dc)
  have kr0 := blk_cell hr5 0
  have kr1 := blk_cell hr5 1
  have kr2 := blk_cell hr5 2
  have kr3 := blk_cell hr5 3
  obtain ⟨⟨z0, f0⟩, ⟨z1, f1⟩, ⟨z2, f2⟩, ⟨z3, f3⟩⟩ := put4_way (.int .i64 206) (.string ⟨#[80, 97, 114, 116, 105, 97, 108, 32, 67, 111, 110, 116, 101, 110, 116]⟩) (.slice D nf.length dc) hz5
  have gr5 := grown1 W4 (H + 1) 2 (.slice D nf.length dc)
  have grz := put4_grown (W4.setCell ⟨H + 1, 2, none⟩ (.slice D nf.length dc)) (H + 1 + 1) (.int .i64 206) (.string ⟨#[80, 97, 114, 116, 105, 97, 108, 32, 67, 111, 110, 116, 101, 110, 116]⟩) (.slice D nf.length dc) (.slice EE (x.f1.toNat - x.f0.toNat) gg)
  have Rn5 := Kd.R_grown1 hRn rfl gr5 (out_of_own hRn (by omega))
  have Rn6 := Aside0.mk (Kd.R_grown1 Rn5 rfl grz (out_of_own Rn5 (by omega)))
  have R34 := Kd.R_below R3' hb4
  have R35 := Kd.R_grown1 R34 rfl gr5 (out_of_own R34 (by omega))
  have R36 := Aside0.mk (Kd.R_grown1 R35 rfl grz (out_of_own R35 (by omega)))
  have BB := Aside0.mk (((pa3.out.below.trans b15).trans (hb4.mono (by omega))).setCell (p := ⟨H + 1, 2, none⟩) (by show H ≤ H + 1; omega) (.slice D nf.length dc))
  have HZ5 := Aside0.mk hz5
  clear gr5 grz Rn5 R34 R35 hRn R2' R3' hb4 hr5 hz5 gr15 z15 b15 hr16 hx16 hxn kj0 kj1
  go_wp2
  rw [hQ.out]
  refine bodyPost_ret (results_cell_row rfl _ _ (H + 1 + 1) 37 #[.int .i64 206, .string ⟨#[80, 97, 114, 116, 105, 97, 108, 32, 67, 111, 110, 116, 101, 110, 116]⟩, .slice D nf.length dc, (.slice EE (x.f1.toNat - x.f0.toNat) gg)] (0, 0) _ rfl (put4_box _ _ _ _ HZ5.out) Tryz.underlying37 rfl (by kernel_rfl)) rfl ?_
  have q := Kd.Q_drop (k := x.f0.toNat) (Kd.Q_take (m := x.f1.toNat) (Kd.Q_of_R R36.out) (by omega)) (by rw [List.length_take]; omega)
  rw [show x.f0.toNat * (Kd.int .u8).sz = x.f0.toNat from Nat.mul_one _, ← hEE.out, ← hgg.out] at q
  have hH := pa3.out.hH
  exact ⟨_, _, rfl, Kd.R_lower Rn6.out (by omega), Kd.Q_lower q (by omega), pa3.out.hH ▸ BB.out.trans (put4_below _ _ _ _ (by omega))⟩
end Go.Proofs.YtacgmcmnnogbbaaGreatDoor.PX

namespace Go.Proofs.YtacgmcmnnogbbaaGreatDoor.PX
open Go.RowKit Go.Proofs Go.Proofs.YtacgmcmnnogbbaaGreatDoorW.PrintWords Go.Proofs.YtacgmcmnnogbbaaGreatDoorW.PrintLast Go.Proofs.YtacgmcmnnogbbaaGreatDoorW.PrintMore
set_option linter.unusedVariables false
set_option linter.unusedSimpArgs false
def part_ApplyG.last (It : Int → Option ByteArray) (k : Nat) (s : Int × ByteArray × List S50 × List Int) (sz : ByteArray) : List S56 → Option (Int × ByteArray × List S50 × List Int)
  | [] => some (416, ⟨#[82, 97, 110, 103, 101, 32, 78, 111, 116, 32, 83, 97, 116, 105, 115, 102, 105, 97, 98, 108, 101]⟩, [⟨⟨#[67, 111, 110, 116, 101, 110, 116, 45, 82, 97, 110, 103, 101]⟩, (⟨#[98, 121, 116, 101, 115, 32, 42, 47]⟩ : ByteArray) ++ sz⟩], [])
  | [x] => if 0 ≤ x.f0 ∧ x.f0 ≤ x.f1 ∧ x.f1 ≤ (s.2.2.2.length : Int) then
      (It x.f0).bind fun t1 => (It (wrap64 (x.f1 - 1))).bind fun t2 => if t1.size ≤ 1000 ∧ t2.size ≤ 1000 then
        (head_Set.f k s.2.2.1 ⟨#[67, 111, 110, 116, 101, 110, 116, 45, 82, 97, 110, 103, 101]⟩ ((((((⟨#[98, 121, 116, 101, 115, 32]⟩ : ByteArray) ++ t1) ++ (⟨#[45]⟩ : ByteArray)) ++ t2) ++ (⟨#[47]⟩ : ByteArray)) ++ sz)).bind fun nf => some (206, ⟨#[80, 97, 114, 116, 105, 97, 108, 32, 67, 111, 110, 116, 101, 110, 116]⟩, nf, (s.2.2.2.take x.f1.toNat).drop x.f0.toNat) else none
    else none
  | _ => some s
def part_ApplyG.f (It : Int → Option ByteArray) (k : Nat) (a0_0 a0_1 : ByteArray) (l0_2 : List S50) (l0_3 : List Int) (a1_0 : Int) (a1_1 : ByteArray) (l1_2 : List S50) (l1_3 : List Int) : Option (Int × ByteArray × List S50 × List Int) :=
  (part_copied.f a1_0 a1_1 l1_2 l1_3).bind fun s => (head_All.f k l0_2 ⟨#[82, 97, 110, 103, 101]⟩).bind fun asks =>
    if a0_0 = ⟨#[71, 69, 84]⟩ ∧ s.1 = 200 ∧ asks.length = 1 then
      (part_Holds.f k l0_2 200 s.2.1 s.2.2.1 s.2.2.2).bind fun h => if h = true then
        (part_Parse.f k (asks.headD ⟨#[]⟩) (s.2.2.2.length : Int)).bind fun p => if p.2 = 0 then
          (It (s.2.2.2.length : Int)).bind fun sz => if sz.size ≤ 1000 then (part_Join.f k p.1).bind fun j => part_ApplyG.last It k s sz j else none
        else some s
      else none
    else some s
theorem part_ApplyG.mono_l (It : Int → Option ByteArray) (k : Nat) (s : Int × ByteArray × List S50 × List Int) (sz : ByteArray) : ∀ j, LeO (part_ApplyG.last It k s sz j) (part_ApplyG.last It (k + 1) s sz j)
  | [] => LeO.refl _
  | [x] => by
    unfold part_ApplyG.last
    repeat' first
      | (with_reducible exact head_Set.mono _ _ _ _)
      | (with_reducible exact LeO.refl _)
      | (with_reducible refine LeO.ite ?_ ?_)
      | (with_reducible refine LeO.bind ?_ (fun _ => ?_))
  | _ :: _ :: _ => LeO.refl _
theorem part_ApplyG.mono (It : Int → Option ByteArray) : ∀ a0 a1 a2 a3 a4 a5 a6 a7 k, LeO (part_ApplyG.f It k a0 a1 a2 a3 a4 a5 a6 a7) (part_ApplyG.f It (k + 1) a0 a1 a2 a3 a4 a5 a6 a7) := by
  intro a0 a1 a2 a3 a4 a5 a6 a7 k
  unfold part_ApplyG.f
  repeat' first
      | (with_reducible exact part_ApplyG.mono_l _ _ _ _ _)
      | (with_reducible exact part_Join.mono _ _)
      | (with_reducible exact part_Parse.mono _ _ _)
      | (with_reducible exact part_Holds.mono _ _ _ _ _ _)
      | (with_reducible exact head_All.mono _ _ _)
      | (with_reducible exact LeO.refl _)
      | (with_reducible refine LeO.ite ?_ ?_)
      | (with_reducible refine LeO.bind ?_ (fun _ => ?_))
set_option maxHeartbeats 4000000 in
set_option maxRecDepth 100000 in
theorem part_ApplyG.calls (It : Int → Option ByteArray) (k : Nat) (q0 q1 : ByteArray) (A2 : Option Addr) (c2 : Nat) (l2 : List S50) (A3 : Option Addr) (c3 : Nat) (l3 : List Int) (a0 : Int) (a1 : ByteArray) (B2 : Option Addr) (d2 : Nat) (m2 : List S50) (B3 : Option Addr) (d3 : Nat) (m3 : List Int)
    (r0 : Int) (r1 : ByteArray) (r2 : List S50) (r3 : List Int) (w : World)
    (hq : Kd.C k50 w A2 l2.length l2) (hq' : l2.length ≤ c2) (hq3 : Kd.C (Kd.int .u8) w A3 l3.length l3) (hq3' : l3.length ≤ c3) (hr2 : Kd.C k50 w B2 m2.length m2) (hr2' : m2.length ≤ d2) (hr3 : Kd.C (Kd.int .u8) w B3 m3.length m3) (hr3' : m3.length ≤ d3)
    (hIt : ∀ n t, It n = some t → ItoaAt w n t) (h : part_ApplyG.f It k q0 q1 l2 l3 a0 a1 m2 m3 = some (r0, r1, r2, r3)) :
    Calls Tryz.prog 17 #[.agg #[.string q0, .string q1, .slice A2 l2.length c2, .slice A3 l3.length c3], .agg #[.int .i64 a0, .string a1, .slice B2 m2.length d2, .slice B3 m3.length d3]] w (ApplyPost w r0 r1 r2 r3) := by
  unfold part_ApplyG.f at h
  obtain ⟨⟨s0, s1, sf, sb⟩, hc, h⟩ := Option.bind_eq_some_iff.mp h
  obtain ⟨asks, hall, h⟩ := Option.bind_eq_some_iff.mp h
  refine apply_head k q0 q1 A2 c2 l2 A3 c3 l3.length a0 a1 B2 d2 m2 B3 d3 m3 w s0 s1 sf sb asks (ApplyPost w r0 r1 r2 r3) hc hall hq hq' hr2 hr2' hr3 hr3' ⟨?_⟩
  clear hr2 hr2' hr3 hr3' hc hall hq
  intro W E2 g2 E3 g3 AA ac u0 u1 u6 u7 u8 u9 u10 u11 u12 u13 u14 u15 u16 u17 u18 u19 u20 u21 u22 u23 u24 u25 u26 u27 u28 u29 u30 u31 u32 u33 u34 u35 u36 u37 u38 u39 u40 u41 u42 u43 u44 u45 u46 u47 u48 u49 u50 u51 u52 u53 u54 u55 u56 u57 u58 u59 u60 u61 u62 u63 u64 u65 u66 u67 u68 u69 u70 u71 u72 u73 u74 u75 u76 u77 u78 u79 u80 u81 u82 u83 u84 u85 u86 u87 u88 u89 u90 u91 u92 u93 u94 u95 u96 pa hCA hac
  by_cases hm : q0 = ⟨#[71, 69, 84]⟩
  case neg =>
    rw [if_neg (fun hh => hm hh.1)] at h
    obtain ⟨rfl, rfl, rfl, rfl⟩ : s0 = r0 ∧ s1 = r1 ∧ sf = r2 ∧ sb = r3 := by simpa using h
    exact apply_3q _ w q0 q1 A2 c2 l2 A3 _ c3 _ _ _ _ E2 g2 E3 g3 W ⟨pa⟩ AA asks.length ac hm _ _ _ _ _ _ _ _ _ _ _ _ _ _ _ _ _ _ _ _ _ _ _ _ _ _ _ _ _ _ _ _ _ _ _ _ _ _ _ _ _ _ _ _ _ _ _ _ _ _ _ _ _ _ _ _ _ _ _ _ _ _ _ _ _ _ _ _ _ _ _ _ _ _ _ _ _ _ _ _ _ _ _ _ _ _ _ _ _ _ _ _ _
  by_cases hs : s0 = 200
  case neg =>
    rw [if_neg (fun hh => hs hh.2.1)] at h
    obtain ⟨rfl, rfl, rfl, rfl⟩ : s0 = r0 ∧ s1 = r1 ∧ sf = r2 ∧ sb = r3 := by simpa using h
    exact apply_3s _ w q0 q1 A2 c2 l2 A3 _ c3 _ _ _ _ E2 g2 E3 g3 W ⟨pa⟩ AA asks.length ac hm hs _ _ _ _ _ _ _ _ _ _ _ _ _ _ _ _ _ _ _ _ _ _ _ _ _ _ _ _ _ _ _ _ _ _ _ _ _ _ _ _ _ _ _ _ _ _ _ _ _ _ _ _ _ _ _ _ _ _ _ _ _ _ _ _ _ _ _ _ _ _ _ _ _ _ _ _ _ _ _ _ _ _ _ _ _ _ _ _ _ _ _ _ _
  by_cases han : asks.length = 1
  case neg =>
    rw [if_neg (fun hh => han hh.2.2)] at h
    obtain ⟨rfl, rfl, rfl, rfl⟩ : s0 = r0 ∧ s1 = r1 ∧ sf = r2 ∧ sb = r3 := by simpa using h
    exact apply_3a _ w q0 q1 A2 c2 l2 A3 _ c3 _ _ _ _ E2 g2 E3 g3 W ⟨pa⟩ AA asks.length ac hm hs han _ _ _ _ _ _ _ _ _ _ _ _ _ _ _ _ _ _ _ _ _ _ _ _ _ _ _ _ _ _ _ _ _ _ _ _ _ _ _ _ _ _ _ _ _ _ _ _ _ _ _ _ _ _ _ _ _ _ _ _ _ _ _ _ _ _ _ _ _ _ _ _ _ _ _ _ _ _ _ _ _ _ _ _ _ _ _ _ _ _ _ _ _
  rw [if_pos ⟨hm, hs, han⟩] at h
  obtain ⟨hb, hh, h⟩ := Option.bind_eq_some_iff.mp h
  cases hb with
  | false => simp at h
  | true =>
  rw [if_pos rfl] at h
  obtain ⟨⟨ll, e⟩, hp, h5⟩ := Option.bind_eq_some_iff.mp h
  clear h
  dsimp only at hp h5
  obtain ⟨v0, rfl⟩ : ∃ v0, asks = [v0] := List.length_eq_one_iff.mp han
  obtain ⟨ad, rfl, hcell⟩ := C_str1 hCA
  rw [apply_p3_eq]
  refine wp_seq (wp_mono (apply_3ok _ w q0 q1 A2 c2 l2 A3 _ c3 _ _ _ _ E2 g2 E3 g3 W ⟨pa⟩ k (some ad) ac hm hs hq' ⟨hh⟩ (apply_p5.wp Tryz.prog (bodyPost Tryz.prog Tryz.f17 (ApplyPost w r0 r1 r2 r3))) ⟨?_⟩ _ _ _ _ _ _ _ _ _ _ _ _ _ _ _ _ _ _ _ _ _ _ _ _ _ _ _ _ _ _ _ _ _ _ _ _ _ _ _ _ _ _ _ _ _ _ _ _ _ _ _ _ _ _ _ _ _ _ _ _ _ _ _ _ _ _ _ _ _ _ _ _ _ _ _ _ _ _ _ _ _ _ _ _ _ _ _ _ _ _ _ _ _) ?_)
  rotate_left
  · intro e a w h
    cases e <;> first | exact h | exact h.elim
  clear u0 u1 u6 u7 u8 u9 u10 u11 u12 u13 u14 u15 u16 u17 u18 u19 u20 u21 u22 u23 u24 u25 u26 u27 u28 u29 u30 u31 u32 u33 u34 u35 u36 u37 u38 u39 u40 u41 u42 u43 u44 u45 u46 u47 u48 u49 u50 u51 u52 u53 u54 u55 u56 u57 u58 u59 u60 u61 u62 u63 u64 u65 u66 u67 u68 u69 u70 u71 u72 u73 u74 u75 u76 u77 u78 u79 u80 u81 u82 u83 u84 u85 u86 u87 u88 u89 u90 u91 u92 u93 u94 u95 u96
  intro W' u0 u1 u6 u7 u8 u9 u10 u11 u12 u13 u14 u15 u16 u17 u18 u19 u20 u21 u22 u23 u24 u25 u26 u27 u28 u29 u30 u31 u32 u33 u34 u35 u36 u37 u38 u39 u40 u41 u42 u43 u44 u45 u46 u47 u48 u49 u50 u51 u52 u53 u54 u55 u56 u57 u58 u59 u60 u61 u62 u63 u64 u65 u66 u67 u68 u69 u70 u71 u72 u73 u74 u75 u76 u77 u78 u79 u80 u81 u82 u83 u84 u85 u86 u87 u88 u89 u90 u91 u92 u93 u94 u95 u96 hb5
  have hCA' := Kd.C_below hCA hb5
  have pa' := pa.lies hb5
  clear pa hCA hcell hh
  obtain ⟨ad', had, hcell⟩ := C_str1 hCA'
  cases had
  rw [apply_p5_eq]
  refine wp_seq (wp_mono (apply_5 _ w q0 q1 A2 c2 l2 A3 _ c3 _ _ _ _ E2 g2 E3 g3 W' ⟨pa'⟩ k v0 ad ac hac hcell ll e ⟨hp⟩ (apply_p6.wp Tryz.prog (bodyPost Tryz.prog Tryz.f17 (ApplyPost w r0 r1 r2 r3))) ⟨?_⟩ _ _ _ _ _ _ _ _ _ _ _ _ _ _ _ _ _ _ _ _ _ _ _ _ _ _ _ _ _ _ _ _ _ _ _ _ _ _ _ _ _ _ _ _ _ _ _ _ _ _ _ _ _ _ _ _ _ _ _ _ _ _ _ _ _ _ _ _ _ _ _ _ _ _ _ _ _ _ _ _ _ _ _ _ _ _ _ _ _ _ _ _ _) ?_)
  rotate_left
  · intro e a w h
    cases e <;> first | exact h | exact h.elim
  clear u0 u1 u6 u7 u8 u9 u10 u11 u12 u13 u14 u15 u16 u17 u18 u19 u20 u21 u22 u23 u24 u25 u26 u27 u28 u29 u30 u31 u32 u33 u34 u35 u36 u37 u38 u39 u40 u41 u42 u43 u44 u45 u46 u47 u48 u49 u50 u51 u52 u53 u54 u55 u56 u57 u58 u59 u60 u61 u62 u63 u64 u65 u66 u67 u68 u69 u70 u71 u72 u73 u74 u75 u76 u77 u78 u79 u80 u81 u82 u83 u84 u85 u86 u87 u88 u89 u90 u91 u92 u93 u94 u95 u96
  intro W'' L lc u0 u1 u5 u8 u9 u10 u11 u12 u13 u14 u15 u16 u17 u18 u19 u20 u21 u22 u23 u24 u25 u26 u27 u28 u29 u30 u31 u32 u33 u34 u35 u36 u37 u38 u39 u40 u41 u42 u43 u44 u45 u46 u47 u48 u49 u50 u51 u52 u53 u54 u55 u56 u57 u58 u59 u60 u61 u62 u63 u64 u65 u66 u67 u68 u69 u70 u71 u72 u73 u74 u75 u76 u77 u78 u79 u80 u81 u82 u83 u84 u85 u86 u87 u88 u89 u90 u91 u92 u93 u94 u95 u96 hb6 hL hlc
  have pa'' := pa'.lies hb6
  by_cases he : e = 0
  case neg =>
    rw [if_neg he] at h5
    obtain ⟨rfl, rfl, rfl, rfl⟩ : s0 = r0 ∧ s1 = r1 ∧ sf = r2 ∧ sb = r3 := by simpa using h5
    exact apply_6err _ w q0 q1 A2 c2 l2 A3 _ c3 _ _ _ _ E2 g2 E3 g3 W'' ⟨pa''⟩ e he L ll.length lc _ _ _ _ _ _ _ _ _ _ _ _ _ _ _ _ _ _ _ _ _ _ _ _ _ _ _ _ _ _ _ _ _ _ _ _ _ _ _ _ _ _ _ _ _ _ _ _ _ _ _ _ _ _ _ _ _ _ _ _ _ _ _ _ _ _ _ _ _ _ _ _ _ _ _ _ _ _ _ _ _ _ _ _ _ _ _ _ _ _ _ _
  rw [if_pos he] at h5
  subst he
  obtain ⟨sz, hsz, h5⟩ := Option.bind_eq_some_iff.mp h5
  by_cases hz : sz.size ≤ 1000
  case neg => rw [if_neg hz] at h5; exact absurd h5 (by simp)
  rw [if_pos hz] at h5
  obtain ⟨j, hj, h5⟩ := Option.bind_eq_some_iff.mp h5
  match j, hj, h5 with
  | [], hj, h5 =>
    simp only [part_ApplyG.last] at h5
    injection h5 with h5
    injection h5 with e1 h5
    injection h5 with e2 h5
    injection h5 with e3 e4
    subst e1; subst e2; subst e3; subst e4
    exact apply_6none _ w q0 q1 A2 c2 l2 A3 _ c3 _ _ _ _ E2 g2 E3 g3 W'' ⟨pa''⟩ k ll sz L lc ⟨hL⟩ hlc ⟨hIt _ _ hsz⟩ ⟨hj⟩ hz _ _ _ _ _ _ _ _ _ _ _ _ _ _ _ _ _ _ _ _ _ _ _ _ _ _ _ _ _ _ _ _ _ _ _ _ _ _ _ _ _ _ _ _ _ _ _ _ _ _ _ _ _ _ _ _ _ _ _ _ _ _ _ _ _ _ _ _ _ _ _ _ _ _ _ _ _ _ _ _ _ _ _ _ _ _ _ _ _ _ _ _
  | [x], hj, h5 =>
    simp only [part_ApplyG.last] at h5
    by_cases hx : 0 ≤ x.f0 ∧ x.f0 ≤ x.f1 ∧ x.f1 ≤ (sb.length : Int)
    case neg => rw [if_neg hx] at h5; exact absurd h5 (by simp)
    rw [if_pos hx] at h5
    obtain ⟨t1, ht1, h5⟩ := Option.bind_eq_some_iff.mp h5
    obtain ⟨t2, ht2, h5⟩ := Option.bind_eq_some_iff.mp h5
    by_cases hl : t1.size ≤ 1000 ∧ t2.size ≤ 1000
    case neg => rw [if_neg hl] at h5; exact absurd h5 (by simp)
    rw [if_pos hl] at h5
    obtain ⟨nf, hset, h5⟩ := Option.bind_eq_some_iff.mp h5
    injection h5 with h5
    injection h5 with e1 h5
    injection h5 with e2 h5
    injection h5 with e3 e4
    subst e1; subst e2; subst e3; subst e4
    exact apply_6one _ w q0 q1 A2 c2 l2 A3 _ c3 _ _ _ _ E2 g2 E3 g3 W'' ⟨pa''⟩ k ll x nf sz t1 t2 L lc ⟨hL⟩ hlc ⟨hIt _ _ hsz⟩ ⟨hj⟩ hx.1 hx.2.1 hx.2.2 ⟨hIt _ _ ht1⟩ ⟨hIt _ _ ht2⟩ ⟨hset⟩ hl.1 hl.2 hz _ _ _ _ _ _ _ _ _ _ _ _ _ _ _ _ _ _ _ _ _ _ _ _ _ _ _ _ _ _ _ _ _ _ _ _ _ _ _ _ _ _ _ _ _ _ _ _ _ _ _ _ _ _ _ _ _ _ _ _ _ _ _ _ _ _ _ _ _ _ _ _ _ _ _ _ _ _ _ _ _ _ _ _ _ _ _ _ _ _ _ _
  | x :: y :: t, hj, h5 =>
    simp only [part_ApplyG.last] at h5
    injection h5 with h5
    injection h5 with e1 h5
    injection h5 with e2 h5
    injection h5 with e3 e4
    subst e1; subst e2; subst e3; subst e4
    exact apply_6many _ w q0 q1 A2 c2 l2 A3 _ c3 _ _ _ _ E2 g2 E3 g3 W'' ⟨pa''⟩ k ll (x :: y :: t) sz L lc ⟨hL⟩ hlc ⟨hIt _ _ hsz⟩ ⟨hj⟩ (by simp) (by simp) _ _ _ _ _ _ _ _ _ _ _ _ _ _ _ _ _ _ _ _ _ _ _ _ _ _ _ _ _ _ _ _ _ _ _ _ _ _ _ _ _ _ _ _ _ _ _ _ _ _ _ _ _ _ _ _ _ _ _ _ _ _ _ _ _ _ _ _ _ _ _ _ _ _ _ _ _ _ _ _ _ _ _ _ _ _ _ _ _ _ _ _
/-- With the small numbers' Itoa. -/
def part_Apply.f (k : Nat) (a0_0 a0_1 : ByteArray) (l0_2 : List S50) (l0_3 : List Int) (a1_0 : Int) (a1_1 : ByteArray) (l1_2 : List S50) (l1_3 : List Int) : Option (Int × ByteArray × List S50 × List Int) := part_ApplyG.f strconv_Itoa.f k a0_0 a0_1 l0_2 l0_3 a1_0 a1_1 l1_2 l1_3
theorem part_Apply.mono : ∀ a0 a1 a2 a3 a4 a5 a6 a7 k, LeO (part_Apply.f k a0 a1 a2 a3 a4 a5 a6 a7) (part_Apply.f (k + 1) a0 a1 a2 a3 a4 a5 a6 a7) := part_ApplyG.mono _
theorem part_Apply.calls (k : Nat) (q0 q1 : ByteArray) (A2 : Option Addr) (c2 : Nat) (l2 : List S50) (A3 : Option Addr) (c3 : Nat) (l3 : List Int) (a0 : Int) (a1 : ByteArray) (B2 : Option Addr) (d2 : Nat) (m2 : List S50) (B3 : Option Addr) (d3 : Nat) (m3 : List Int)
    (r0 : Int) (r1 : ByteArray) (r2 : List S50) (r3 : List Int) (w : World)
    (hq : Kd.C k50 w A2 l2.length l2) (hq' : l2.length ≤ c2) (hq3 : Kd.C (Kd.int .u8) w A3 l3.length l3) (hq3' : l3.length ≤ c3) (hr2 : Kd.C k50 w B2 m2.length m2) (hr2' : m2.length ≤ d2) (hr3 : Kd.C (Kd.int .u8) w B3 m3.length m3) (hr3' : m3.length ≤ d3)
    (h : part_Apply.f k q0 q1 l2 l3 a0 a1 m2 m3 = some (r0, r1, r2, r3)) :
    Calls Tryz.prog 17 #[.agg #[.string q0, .string q1, .slice A2 l2.length c2, .slice A3 l3.length c3], .agg #[.int .i64 a0, .string a1, .slice B2 m2.length d2, .slice B3 m3.length d3]] w (ApplyPost w r0 r1 r2 r3) :=
  part_ApplyG.calls strconv_Itoa.f k q0 q1 A2 c2 l2 A3 c3 l3 a0 a1 B2 d2 m2 B3 d3 m3 r0 r1 r2 r3 w hq hq' hq3 hq3' hr2 hr2' hr3 hr3' (fun n t h => ItoaAt.small h) h
end Go.Proofs.YtacgmcmnnogbbaaGreatDoor.PX

namespace Go.Proofs.YtacgmcmnnogbbaaGreatDoor.PX
open Go.RowKit Go.Proofs Go.Proofs.YtacgmcmnnogbbaaGreatDoorW.PrintWords Go.Proofs.YtacgmcmnnogbbaaGreatDoorW.PrintLast Go.Proofs.YtacgmcmnnogbbaaGreatDoorW.PrintMore
set_option linter.unusedVariables false
set_option linter.unusedSimpArgs false
def Tab (w : World) : Prop := Lib.TabIs Tryz.prog w "internal/strconv.uint64pow10" .u64 Lib.pow10Tab
theorem Tab.lies {w W : World} (h : Tab w) (hb : Below w.heap.size w W) : Tab W := by
  have hg : Tryz.prog.globalNamed "internal/strconv.uint64pow10" = some 3 := by kernel_rfl
  unfold Tab Lib.TabIs at h ⊢
  have lt : 3 < w.heap.size := by
    unfold World.var? at h
    rw [hg] at h
    simp only [Option.bind_some] at h
    cases hx : w.heap[3]? with
    | none => rw [hx] at h; simp at h
    | some o => exact (Array.getElem?_eq_some_iff.1 hx).1
  rw [← h]
  unfold World.var?
  rw [hg]
  simp only [Option.bind_some]
  rw [hb.block _ lt]
def strconv_ItoaT.f (a0 : Int) : Option ByteArray := if -9223372036854775808 ≤ a0 ∧ a0 ≤ 9223372036854775807 then some ⟨(Lib.itoa a0).toArray⟩ else none
theorem ItoaAt.tab {w : World} {n : Int} {t : ByteArray} (ht : Tab w) (h : strconv_ItoaT.f n = some t) : ItoaAt w n t := by
  unfold strconv_ItoaT.f at h
  by_cases hc : -9223372036854775808 ≤ n ∧ n ≤ 9223372036854775807
  case neg => rw [if_neg hc] at h; exact absurd h (by simp)
  rw [if_pos hc] at h
  obtain rfl := Option.some.inj h
  intro W hb
  refine (Tryz.strconv_Itoa n hc.1 hc.2 W (ht.lies hb)).mono fun e w' h => ?_
  obtain ⟨h1, k, os, rfl⟩ := h
  refine ⟨h1, rfl, rfl, rfl, ?_, fun i hi => ?_⟩
  · simp [Sort.grow, World.drewN]
  · simp [Sort.grow, World.drewN, Array.getElem?_append, hi]
def part_ApplyT.f (k : Nat) (a0_0 a0_1 : ByteArray) (l0_2 : List S50) (l0_3 : List Int) (a1_0 : Int) (a1_1 : ByteArray) (l1_2 : List S50) (l1_3 : List Int) : Option (Int × ByteArray × List S50 × List Int) := part_ApplyG.f strconv_ItoaT.f k a0_0 a0_1 l0_2 l0_3 a1_0 a1_1 l1_2 l1_3
theorem part_ApplyT.mono : ∀ a0 a1 a2 a3 a4 a5 a6 a7 k, LeO (part_ApplyT.f k a0 a1 a2 a3 a4 a5 a6 a7) (part_ApplyT.f (k + 1) a0 a1 a2 a3 a4 a5 a6 a7) := part_ApplyG.mono _
theorem part_ApplyT.calls (k : Nat) (q0 q1 : ByteArray) (A2 : Option Addr) (c2 : Nat) (l2 : List S50) (A3 : Option Addr) (c3 : Nat) (l3 : List Int) (a0 : Int) (a1 : ByteArray) (B2 : Option Addr) (d2 : Nat) (m2 : List S50) (B3 : Option Addr) (d3 : Nat) (m3 : List Int)
    (r0 : Int) (r1 : ByteArray) (r2 : List S50) (r3 : List Int) (w : World)
    (hq : Kd.C k50 w A2 l2.length l2) (hq' : l2.length ≤ c2) (hq3 : Kd.C (Kd.int .u8) w A3 l3.length l3) (hq3' : l3.length ≤ c3) (hr2 : Kd.C k50 w B2 m2.length m2) (hr2' : m2.length ≤ d2) (hr3 : Kd.C (Kd.int .u8) w B3 m3.length m3) (hr3' : m3.length ≤ d3)
    (ht : Tab w) (h : part_ApplyT.f k q0 q1 l2 l3 a0 a1 m2 m3 = some (r0, r1, r2, r3)) :
    Calls Tryz.prog 17 #[.agg #[.string q0, .string q1, .slice A2 l2.length c2, .slice A3 l3.length c3], .agg #[.int .i64 a0, .string a1, .slice B2 m2.length d2, .slice B3 m3.length d3]] w (ApplyPost w r0 r1 r2 r3) :=
  part_ApplyG.calls strconv_ItoaT.f k q0 q1 A2 c2 l2 A3 c3 l3 a0 a1 B2 d2 m2 B3 d3 m3 r0 r1 r2 r3 w hq hq' hq3 hq3' hr2 hr2' hr3 hr3' (fun n t h => ItoaAt.tab ht h) h
end Go.Proofs.YtacgmcmnnogbbaaGreatDoor.PX

namespace Go.Proofs.YtacgmcmnnogbbaaGreatDoor.PX
open Go.RowKit Go.Proofs.YtacgmcmnnogbbaaGreatDoorW.PrintWords Go.Proofs.YtacgmcmnnogbbaaGreatDoorW.PrintLast Go.Proofs.YtacgmcmnnogbbaaGreatDoorW.PrintMore
set_option linter.unusedVariables false
set_option linter.unusedSimpArgs false
set_option maxRecDepth 100000
def nRange : ByteArray := ⟨#[114, 97, 110, 103, 101]⟩
def nContentRange : ByteArray := ⟨#[67, 111, 110, 116, 101, 110, 116, 45, 82, 97, 110, 103, 101]⟩
theorem same_range : Ev (fun k => head_Same.f k nRange ⟨#[82, 97, 110, 103, 101]⟩) true := Ev.of_mono' (k := 9) (fun k => head_Same.mono _ _ k) (by kernel_rfl)
theorem all_one (v : ByteArray) : Ev (fun k => head_All.f k [⟨nRange, v⟩] ⟨#[82, 97, 110, 103, 101]⟩) [v] := by
  obtain ⟨K, hK⟩ := same_range
  replace hK : ∀ k, K ≤ k → head_Same.f k nRange ⟨#[82, 97, 110, 103, 101]⟩ = some true := hK
  refine ⟨K + 2, fun k hk => ?_⟩
  obtain ⟨j, rfl⟩ : ∃ j, k = j + 1 + 1 := ⟨k - 2, by omega⟩
  show head_All.f (j + 1 + 1) _ _ = _
  rw [head_All.f, head_All.l0, if_pos (by simp), if_pos (by omega), if_pos (by simp)]
  have e : rd_T50 [(⟨nRange, v⟩ : S50)] 0 = ⟨nRange, v⟩ := rfl
  rw [e]
  dsimp only
  rw [hK (j + 1) (by omega), Option.bind_some, if_pos rfl, if_pos (by simp), wrap_id (by omega) (by omega), head_All.l0, if_neg (by simp)]
  rfl
theorem holds_one (v : ByteArray) (s1 : ByteArray) (sf : List S50) (sb : List Int) : Ev (fun k => part_Holds.f k [⟨nRange, v⟩] 200 s1 sf sb) true := by
  refine ⟨2, fun k hk => ?_⟩
  obtain ⟨j, rfl⟩ : ∃ j, k = j + 1 + 1 := ⟨k - 2, by omega⟩
  show part_Holds.f (j + 1 + 1) _ _ _ _ _ = _
  rw [part_Holds.f, head_Get.f, head_Get.l0, if_pos (by simp), if_pos (by omega), if_pos (by simp)]
  have e : rd_T50 [(⟨nRange, v⟩ : S50)] 0 = ⟨nRange, v⟩ := rfl
  rw [e]
  dsimp only
  rw [head_Same.f, if_neg (by decide), Option.bind_some, if_neg (by decide), wrap_id (by omega) (by omega), head_Get.l0, if_neg (by simp)]
  rfl
theorem itoaT {n : Int} (h0 : 0 ≤ n) (h1 : n ≤ 1000) : strconv_ItoaT.f n = some (tx (Lib.itoa n)) := by
  rw [strconv_ItoaT.f, if_pos ⟨by omega, by omega⟩]
  rfl
theorem applyT_pre {v : ByteArray} {l0 : List Int} {p : List S56 × Int} {r : Int × ByteArray × List S50 × List Int} (hl : l0.length ≤ 500) (hp : Ev (fun k => part_Parse.f k v (l0.length : Int)) p)
    (hlast : Ev (fun k => if p.2 = 0 then (strconv_ItoaT.f (l0.length : Int)).bind fun sz => if sz.size ≤ 1000 then (part_Join.f k p.1).bind fun j => part_ApplyG.last strconv_ItoaT.f k (200, ⟨#[]⟩, [], l0) sz j else none else some (200, ⟨#[]⟩, [], l0)) r) :
    Ev (fun k => part_ApplyT.f k ⟨#[71, 69, 84]⟩ ⟨#[]⟩ [⟨nRange, v⟩] [] 200 ⟨#[]⟩ [] l0) r := by
  obtain ⟨K1, h1⟩ := all_one v
  obtain ⟨K2, h2⟩ := holds_one v ⟨#[]⟩ [] l0
  obtain ⟨K3, h3⟩ := hp
  obtain ⟨K4, h4⟩ := hlast
  replace h1 : ∀ k, K1 ≤ k → head_All.f k [⟨nRange, v⟩] ⟨#[82, 97, 110, 103, 101]⟩ = some [v] := h1
  replace h2 : ∀ k, K2 ≤ k → part_Holds.f k [⟨nRange, v⟩] 200 ⟨#[]⟩ [] l0 = some true := h2
  replace h3 : ∀ k, K3 ≤ k → part_Parse.f k v (l0.length : Int) = some p := h3
  refine ⟨max (max K1 K2) (max K3 K4), fun k hk => ?_⟩
  show part_ApplyT.f k _ _ _ _ _ _ _ _ = _
  have hc : part_copied.f 200 ⟨#[]⟩ [] l0 = some (200, ⟨#[]⟩, [], l0) := by
    rw [part_copied.f, slices_Clone_Field.f, if_pos (by simp), Option.bind_some, slices_Clone_byte.f, if_pos (by omega), Option.bind_some]
  rw [part_ApplyT.f, part_ApplyG.f, hc, Option.bind_some, h1 k (by omega), Option.bind_some, if_pos ⟨rfl, rfl, rfl⟩]
  dsimp only
  rw [h2 k (by omega), Option.bind_some, if_pos rfl]
  show (part_Parse.f k v (l0.length : Int)).bind _ = _
  rw [h3 k (by omega), Option.bind_some]
  exact h4 k (by omega)
theorem join_nil : Ev (fun k => part_Join.f k []) [] := Ev.of_mono' (k := 8) (fun k => part_Join.mono _ k) (by kernel_rfl)
theorem join_one {x : S56} (h : x.f0 < x.f1) : Ev (fun k => part_Join.f k [x]) [x] := by
  obtain ⟨j, h1, ⟨h2, _⟩, h3⟩ := join20 [x] (by simp)
  have : j = [x] := Good.one h2 ⟨by simpa using h, List.pairwise_singleton _ _⟩ h3
  subst this
  exact h1
/-- An error of Parse: the response as_ it is. -/
theorem applyT_err {v : ByteArray} {l0 : List Int} (hl : l0.length ≤ 500) (hp : Ev (fun k => part_Parse.f k v (l0.length : Int)) ([], 121)) :
    Ev (fun k => part_ApplyT.f k ⟨#[71, 69, 84]⟩ ⟨#[]⟩ [⟨nRange, v⟩] [] 200 ⟨#[]⟩ [] l0) (200, ⟨#[]⟩, [], l0) :=
  applyT_pre hl hp (Ev.const rfl)
/-- No span: 416. -/
theorem applyT_none {v : ByteArray} {l0 : List Int} (hl : l0.length ≤ 500) (hp : Ev (fun k => part_Parse.f k v (l0.length : Int)) ([], 0)) :
    Ev (fun k => part_ApplyT.f k ⟨#[71, 69, 84]⟩ ⟨#[]⟩ [⟨nRange, v⟩] [] 200 ⟨#[]⟩ [] l0) (416, ⟨#[82, 97, 110, 103, 101, 32, 78, 111, 116, 32, 83, 97, 116, 105, 115, 102, 105, 97, 98, 108, 101]⟩, [⟨nContentRange, (⟨#[98, 121, 116, 101, 115, 32, 42, 47]⟩ : ByteArray) ++ tx (Lib.itoa (l0.length : Int))⟩], []) := by
  have hd := (dig (n := (l0.length : Int)) (by omega) (by omega)).2.1
  refine applyT_pre hl hp ((Ev.bind (g := fun k j => part_ApplyG.last strconv_ItoaT.f k (200, ⟨#[]⟩, [], l0) (tx (Lib.itoa (l0.length : Int))) j) join_nil (Ev.const rfl)).congr fun k => ?_)
  rw [if_pos rfl, itoaT (by omega) (by omega), Option.bind_some, if_pos (by rw [tx_size]; omega)]
/-- One span: 206. -/
theorem applyT_one {v : ByteArray} {l0 : List Int} {x : S56} (hl : l0.length ≤ 500) (hp : Ev (fun k => part_Parse.f k v (l0.length : Int)) ([x], 0)) (h0 : 0 ≤ x.f0) (h1 : x.f0 < x.f1) (h2 : x.f1 ≤ (l0.length : Int)) :
    Ev (fun k => part_ApplyT.f k ⟨#[71, 69, 84]⟩ ⟨#[]⟩ [⟨nRange, v⟩] [] 200 ⟨#[]⟩ [] l0) (206, ⟨#[80, 97, 114, 116, 105, 97, 108, 32, 67, 111, 110, 116, 101, 110, 116]⟩,
      [⟨nContentRange, ((((((⟨#[98, 121, 116, 101, 115, 32]⟩ : ByteArray) ++ tx (Lib.itoa x.f0)) ++ (⟨#[45]⟩ : ByteArray)) ++ tx (Lib.itoa (x.f1 - 1))) ++ (⟨#[47]⟩ : ByteArray)) ++ tx (Lib.itoa (l0.length : Int)))⟩], (l0.take x.f1.toNat).drop x.f0.toNat) := by
  have hd := (dig (n := (l0.length : Int)) (by omega) (by omega)).2.1
  have hd0 := (dig (n := x.f0) (by omega) (by omega)).2.1
  have hd1 := (dig (n := x.f1 - 1) (by omega) (by omega)).2.1
  refine applyT_pre hl hp ((Ev.bind (g := fun k j => part_ApplyG.last strconv_ItoaT.f k (200, ⟨#[]⟩, [], l0) (tx (Lib.itoa (l0.length : Int))) j) (join_one h1) ⟨1, fun k hk => ?_⟩).congr fun k => ?_)
  · show part_ApplyG.last strconv_ItoaT.f k (200, ⟨#[]⟩, [], l0) (tx (Lib.itoa (l0.length : Int))) [x] = _
    rw [part_ApplyG.last, if_pos ⟨h0, by omega, h2⟩, itoaT h0 (by omega), Option.bind_some, wrap_id (by omega) (by omega), itoaT (by omega) (by omega), Option.bind_some, if_pos ⟨by rw [tx_size]; omega, by rw [tx_size]; omega⟩]
    rfl
  · rw [if_pos rfl, itoaT (by omega) (by omega), Option.bind_some, if_pos (by rw [tx_size]; omega)]
end Go.Proofs.YtacgmcmnnogbbaaGreatDoor.PX

