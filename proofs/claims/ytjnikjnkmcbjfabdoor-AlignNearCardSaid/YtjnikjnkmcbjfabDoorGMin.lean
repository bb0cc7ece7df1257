/- slices.MinFunc with feature.Near's literal, walked: the first of the letters that are the least unlike what is wanted. -/
import Derived.Test.YtjnikjnkmcbjfabDoorGOf
import Derived.Test.YtjnikjnkmcbjfabDoorX15
import Derived.Test.YtjnikjnkmcbjfabDoorX2
import Derived.Deep.RegionHeld3
import Derived.IntWalk
import Derived.Outline
namespace Go.Proofs.YtjnikjnkmcbjfabDoor.X
open Go.RowKit Go.Proofs.YtjnikjnkmcbjfabDoorW.PrintWords Go.Proofs.YtjnikjnkmcbjfabDoorW.PrintLast Go.Proofs.YtjnikjnkmcbjfabDoorW.PrintMore
/-- A result of u32's bits is a u32. -/
theorem bits_u32_range (op : BinOp) (a b : Int) : 0 ≤ Go.bits op .u32 a b ∧ Go.bits op .u32 a b < 4294967296 := by
  have hw : ∀ n : Int, 0 ≤ IntKind.u32.wrap n ∧ IntKind.u32.wrap n < 4294967296 := fun n => by rw [IntKind.wrap_u32]; omega
  unfold Go.bits
  split <;> exact hw _
/-- For how many features two letters' signs are unlike. -/
def unl (p m q n : Int) : Int := (bits_OnesCount32.f (Go.bits .or .u32 (Go.bits .xor .u32 p q) (Go.bits .xor .u32 m n))).getD 0
theorem unl_eq (x0 p m y0 q n : Int) : feature_unlike.f x0 p m y0 q n = some (unl p m q n) := by
  have h := bits_u32_range .or (Go.bits .xor .u32 p q) (Go.bits .xor .u32 m n)
  simp [feature_unlike.f, unl, bits_OnesCount32.f, h]
theorem unl_range (p m q n : Int) : 0 ≤ unl p m q n ∧ unl p m q n ≤ 32 := by
  have h := bits_u32_range .or (Go.bits .xor .u32 p q) (Go.bits .xor .u32 m n)
  have e : unl p m q n = Lib.pop8 ((Go.bits .or .u32 (Go.bits .xor .u32 p q) (Go.bits .xor .u32 m n)) / 16777216) + Lib.pop8 ((Go.bits .or .u32 (Go.bits .xor .u32 p q) (Go.bits .xor .u32 m n)) / 65536 % 256) + Lib.pop8 ((Go.bits .or .u32 (Go.bits .xor .u32 p q) (Go.bits .xor .u32 m n)) / 256 % 256) + Lib.pop8 ((Go.bits .or .u32 (Go.bits .xor .u32 p q) (Go.bits .xor .u32 m n)) % 256) := by
    simp [unl, bits_OnesCount32.f, h]
  have p0 := pop8_le ((Go.bits .or .u32 (Go.bits .xor .u32 p q) (Go.bits .xor .u32 m n)) / 16777216) (by omega) (by omega)
  have p1 := pop8_le ((Go.bits .or .u32 (Go.bits .xor .u32 p q) (Go.bits .xor .u32 m n)) / 65536 % 256) (by omega) (by omega)
  have p2 := pop8_le ((Go.bits .or .u32 (Go.bits .xor .u32 p q) (Go.bits .xor .u32 m n)) / 256 % 256) (by omega) (by omega)
  have p3 := pop8_le ((Go.bits .or .u32 (Go.bits .xor .u32 p q) (Go.bits .xor .u32 m n)) % 256) (by omega) (by omega)
  rw [e]
  omega
theorem unlike_any (x0 p m y0 q n : Int) (w : World) : Calls Tryd.prog 103 #[.agg #[.int .i32 x0, .int .u32 p, .int .u32 m], .agg #[.int .i32 y0, .int .u32 q, .int .u32 n]] w fun e w' => e = .returned (.int .i64 (unl p m q n)) ∧ Below w.heap.size w w' :=
  feature_unlike.calls _ _ _ _ _ _ _ w (unl_eq x0 p m y0 q n)
theorem near_step (w : World) (B : Nat) (x0 x1 x2 y0 y1 y2 z0 z1 z2 : Int) {w1 w2 : World} (h : w1.cell? ⟨w.heap.size, 0, none⟩ = some (.int .i32 x0) ∧ w1.cell? ⟨w.heap.size, 1, none⟩ = some (.int .u32 x1) ∧ w1.cell? ⟨w.heap.size, 2, none⟩ = some (.int .u32 x2) ∧ w1.cell? ⟨w.heap.size + 1, 0, none⟩ = some (.int .i32 y0) ∧ w1.cell? ⟨w.heap.size + 1, 1, none⟩ = some (.int .u32 y1) ∧ w1.cell? ⟨w.heap.size + 1, 2, none⟩ = some (.int .u32 y2) ∧ w1.cell? ⟨B, 0, none⟩ = some (.int .i32 z0) ∧ w1.cell? ⟨B, 1, none⟩ = some (.int .u32 z1) ∧ w1.cell? ⟨B, 2, none⟩ = some (.int .u32 z2) ∧ Below w.heap.size w w1) (hb : Below w1.heap.size w1 w2) : w2.cell? ⟨w.heap.size, 0, none⟩ = some (.int .i32 x0) ∧ w2.cell? ⟨w.heap.size, 1, none⟩ = some (.int .u32 x1) ∧ w2.cell? ⟨w.heap.size, 2, none⟩ = some (.int .u32 x2) ∧ w2.cell? ⟨w.heap.size + 1, 0, none⟩ = some (.int .i32 y0) ∧ w2.cell? ⟨w.heap.size + 1, 1, none⟩ = some (.int .u32 y1) ∧ w2.cell? ⟨w.heap.size + 1, 2, none⟩ = some (.int .u32 y2) ∧ w2.cell? ⟨B, 0, none⟩ = some (.int .i32 z0) ∧ w2.cell? ⟨B, 1, none⟩ = some (.int .u32 z1) ∧ w2.cell? ⟨B, 2, none⟩ = some (.int .u32 z2) ∧ Below w.heap.size w w2 :=
  have c : ∀ {a : Addr} {v : Value}, w1.cell? a = some v → w2.cell? a = some v := fun h => (hb.cell (World.block_lt_of_cell? _ _ h)).trans h
  ⟨c h.1, c h.2.1, c h.2.2.1, c h.2.2.2.1, c h.2.2.2.2.1, c h.2.2.2.2.2.1, c h.2.2.2.2.2.2.1, c h.2.2.2.2.2.2.2.1, c h.2.2.2.2.2.2.2.2.1, below_step h.2.2.2.2.2.2.2.2.2 hb⟩
set_option maxHeartbeats 2000000 in
set_option maxRecDepth 100000 in
/-- The literal 'unlike(x, want) - unlike(y, want)'. -/
theorem near_lit (x0 x1 x2 y0 y1 y2 z0 z1 z2 : Int) (B : Nat) (w : World) (h0 : w.cell? ⟨B, 0, none⟩ = some (.int .i32 z0)) (h1 : w.cell? ⟨B, 1, none⟩ = some (.int .u32 z1)) (h2 : w.cell? ⟨B, 2, none⟩ = some (.int .u32 z2)) :
    Calls Tryd.prog 102 #[.agg #[.int .i32 x0, .int .u32 x1, .int .u32 x2], .agg #[.int .i32 y0, .int .u32 y1, .int .u32 y2], .pointer (some ⟨B, 0, none⟩)] w fun e w' => e = .returned (.int .i64 (unl x1 x2 z1 z2 - unl y1 y2 z1 z2)) ∧ Below w.heap.size w w' := by
  have hW : Below w.heap.size w ((w.alloc (.cells #[.int .i32 x0, .int .u32 x1, .int .u32 x2] 91)).alloc (.cells #[.int .i32 y0, .int .u32 y1, .int .u32 y2] 91)) := below_alloc (below_alloc (Below.refl _ w) _) _
  have hx := blk_alloc (blk_new w (.cells #[.int .i32 x0, .int .u32 x1, .int .u32 x2] 91)) (.cells #[.int .i32 y0, .int .u32 y1, .int .u32 y2] 91)
  have hy := blk_new (w.alloc (.cells #[.int .i32 x0, .int .u32 x1, .int .u32 x2] 91)) (.cells #[.int .i32 y0, .int .u32 y1, .int .u32 y2] 91)
  rw [World.size_alloc] at hy
  have a0 := (hW.cell (World.block_lt_of_cell? w _ h0)).trans h0
  have a1 := (hW.cell (World.block_lt_of_cell? w _ h1)).trans h1
  have a2 := (hW.cell (World.block_lt_of_cell? w _ h2)).trans h2
  have u1 := unl_range x1 x2 z1 z2
  have u2 := unl_range y1 y2 z1 z2
  have hs : IntKind.i64.wrap (unl x1 x2 z1 z2 - unl y1 y2 z1 z2) = unl x1 x2 z1 z2 - unl y1 y2 z1 z2 := IntWalk.i64_in _ (by omega)
  go_enter Tryd.func102, Tryd.ntmps102
  go_wp2
  have c0 := (blk_cell hx 0).trans rfl
  have c1 := (blk_cell hx 1).trans rfl
  have c2 := (blk_cell hx 2).trans rfl
  have d0 := (blk_cell hy 0).trans rfl
  have d1 := (blk_cell hy 1).trans rfl
  have d2 := (blk_cell hy 2).trans rfl
  go_region_held3 (fun w' => w'.cell? ⟨w.heap.size, 0, none⟩ = some (.int .i32 x0) ∧ w'.cell? ⟨w.heap.size, 1, none⟩ = some (.int .u32 x1) ∧ w'.cell? ⟨w.heap.size, 2, none⟩ = some (.int .u32 x2) ∧ w'.cell? ⟨w.heap.size + 1, 0, none⟩ = some (.int .i32 y0) ∧ w'.cell? ⟨w.heap.size + 1, 1, none⟩ = some (.int .u32 y1) ∧ w'.cell? ⟨w.heap.size + 1, 2, none⟩ = some (.int .u32 y2) ∧ w'.cell? ⟨B, 0, none⟩ = some (.int .i32 z0) ∧ w'.cell? ⟨B, 1, none⟩ = some (.int .u32 z1) ∧ w'.cell? ⟨B, 2, none⟩ = some (.int .u32 z2) ∧ Below w.heap.size w w') (first | exact ⟨c0, c1, c2, d0, d1, d2, a0, a1, a2, below_drew1 hW⟩ | exact near_step w B x0 x1 x2 y0 y1 y2 z0 z1 z2 (by assumption) hb) ((go_at_call 103; refine (unlike_any _ _ _ _ _ _ _).mono ?_; rintro e w2 ⟨rfl, hb⟩))
  have hS : w2.cell? ⟨w.heap.size, 0, none⟩ = some (.int .i32 x0) ∧ w2.cell? ⟨w.heap.size, 1, none⟩ = some (.int .u32 x1) ∧ w2.cell? ⟨w.heap.size, 2, none⟩ = some (.int .u32 x2) ∧ w2.cell? ⟨w.heap.size + 1, 0, none⟩ = some (.int .i32 y0) ∧ w2.cell? ⟨w.heap.size + 1, 1, none⟩ = some (.int .u32 y1) ∧ w2.cell? ⟨w.heap.size + 1, 2, none⟩ = some (.int .u32 y2) ∧ w2.cell? ⟨B, 0, none⟩ = some (.int .i32 z0) ∧ w2.cell? ⟨B, 1, none⟩ = some (.int .u32 z1) ∧ w2.cell? ⟨B, 2, none⟩ = some (.int .u32 z2) ∧ Below w.heap.size w w2 := by with_reducible assumption
  have hB := Aside0.mk hS.2.2.2.2.2.2.2.2.2
  clear hS
  go_wp2
  go_ret
  exact ⟨rfl, hB.out⟩
/-- The first of the first n + 1 letters that are the least unlike what is wanted. -/
def minN (L : List S91) (z1 z2 : Int) : Nat → S91
  | 0 => rd_T91 L 0
  | n + 1 => if unl (rd_T91 L ((n + 1 : Nat) : Int)).f1 (rd_T91 L ((n + 1 : Nat) : Int)).f2 z1 z2 - unl (minN L z1 z2 n).f1 (minN L z1 z2 n).f2 z1 z2 < 0 then rd_T91 L ((n + 1 : Nat) : Int) else minN L z1 z2 n
theorem minN_step (L : List S91) (z1 z2 : Int) (i : Nat) (hi : 1 ≤ i) : minN L z1 z2 (i + 1 - 1) = if unl (rd_T91 L (i : Int)).f1 (rd_T91 L (i : Int)).f2 z1 z2 - unl (minN L z1 z2 (i - 1)).f1 (minN L z1 z2 (i - 1)).f2 z1 z2 < 0 then rd_T91 L (i : Int) else minN L z1 z2 (i - 1) := by
  obtain ⟨n, rfl⟩ : ∃ n, i = n + 1 := ⟨i - 1, by omega⟩
  rfl
/-- What is held while MinFunc calls the literal. -/
def NS (ad : Addr) (i B : Nat) (y0 y1 y2 q0 q1 q2 z0 z1 z2 : Int) (w w' : World) : Prop := w'.cell? (ad.add (i * 3)) = some (.int .i32 y0) ∧ w'.cell? ⟨(ad.add (i * 3)).block, (ad.add (i * 3)).off + 1, none⟩ = some (.int .u32 y1) ∧ w'.cell? ⟨(ad.add (i * 3)).block, (ad.add (i * 3)).off + 2, none⟩ = some (.int .u32 y2) ∧ w'.cell? ⟨w.heap.size + 1, 0, none⟩ = some (.int .i32 q0) ∧ w'.cell? ⟨w.heap.size + 1, 1, none⟩ = some (.int .u32 q1) ∧ w'.cell? ⟨w.heap.size + 1, 2, none⟩ = some (.int .u32 q2) ∧ w'.cell? ⟨B, 0, none⟩ = some (.int .i32 z0) ∧ w'.cell? ⟨B, 1, none⟩ = some (.int .u32 z1) ∧ w'.cell? ⟨B, 2, none⟩ = some (.int .u32 z2) ∧ w'.heap[w.heap.size + 1]? = some (.cells #[.int .i32 q0, .int .u32 q1, .int .u32 q2] 91 (0, 0)) ∧ w'.heap[w.heap.size]? = some (.cells #[.int .i32 0, .int .u32 0, .int .u32 0] 91 (0, 0)) ∧ Below w.heap.size w w'
theorem NS.step {ad : Addr} {i B : Nat} {y0 y1 y2 q0 q1 q2 z0 z1 z2 : Int} {w w1 w2 : World} (h : NS ad i B y0 y1 y2 q0 q1 q2 z0 z1 z2 w w1) (hb : Below w1.heap.size w1 w2) : NS ad i B y0 y1 y2 q0 q1 q2 z0 z1 z2 w w2 :=
  have c : ∀ {a : Addr} {v : Value}, w1.cell? a = some v → w2.cell? a = some v := fun h => (hb.cell (World.block_lt_of_cell? _ _ h)).trans h
  ⟨c h.1, c h.2.1, c h.2.2.1, c h.2.2.2.1, c h.2.2.2.2.1, c h.2.2.2.2.2.1, c h.2.2.2.2.2.2.1, c h.2.2.2.2.2.2.2.1, c h.2.2.2.2.2.2.2.2.1, blk_below h.2.2.2.2.2.2.2.2.2.1 hb, blk_below h.2.2.2.2.2.2.2.2.2.2.1 hb, below_step h.2.2.2.2.2.2.2.2.2.2.2 hb⟩
theorem near_litS {ad : Addr} {i B : Nat} {y0 y1 y2 q0 q1 q2 z0 z1 z2 : Int} {w W : World} (h : NS ad i B y0 y1 y2 q0 q1 q2 z0 z1 z2 w W) :
    Calls Tryd.prog 102 #[.agg #[.int .i32 y0, .int .u32 y1, .int .u32 y2], .agg #[.int .i32 q0, .int .u32 q1, .int .u32 q2], .pointer (some ⟨B, 0, none⟩)] W fun e w' => e = .returned (.int .i64 (unl y1 y2 z1 z2 - unl q1 q2 z1 z2)) ∧ Below W.heap.size W w' :=
  near_lit y0 y1 y2 q0 q1 q2 z0 z1 z2 B W h.2.2.2.2.2.2.1 h.2.2.2.2.2.2.2.1 h.2.2.2.2.2.2.2.2.1
set_option maxHeartbeats 2000000 in
set_option maxRecDepth 100000 in
theorem near_min (A : Option Addr) (c : Nat) (L : List S91) (z0 z1 z2 : Int) (B : Nat) (w : World) (hL : 1 ≤ L.length) (h0 : w.cell? ⟨B, 0, none⟩ = some (.int .i32 z0)) (h1 : w.cell? ⟨B, 1, none⟩ = some (.int .u32 z1)) (h2 : w.cell? ⟨B, 2, none⟩ = some (.int .u32 z2)) (hr : Kd.C k91 w A L.length L) :
    Calls Tryd.prog 101 #[.slice A L.length c, .func (.func 102) #[] #[.pointer (some ⟨B, 0, none⟩)]] w fun e w' => e = .returned (.agg #[.int .i32 (minN L z1 z2 (L.length - 1)).f0, .int .u32 (minN L z1 z2 (L.length - 1)).f1, .int .u32 (minN L z1 z2 (L.length - 1)).f2]) ∧ Below w.heap.size w w' := by
  have HR := Aside0.mk hr
  have H0 := Aside0.mk h0
  have H1 := Aside0.mk h1
  have H2 := Aside0.mk h2
  have hlen : L.length ≤ 9223372036854775807 := hr.2.1
  obtain ⟨ad, ea, x0, x1, x2⟩ := at_T91 hr 0 (by omega) (by omega)
  cases ea
  clear hr h0 h1 h2
  have hw1 : Below w.heap.size w (w.alloc (.cells #[.int .i32 0, .int .u32 0, .int .u32 0] 91)) := below_alloc (Below.refl _ w) _
  replace x0 := (hw1.cell (World.block_lt_of_cell? w _ x0)).trans x0
  replace x1 := (hw1.cell (World.block_lt_of_cell? w _ x1)).trans x1
  replace x2 := (hw1.cell (World.block_lt_of_cell? w _ x2)).trans x2
  clear hw1
  simp only [Int.toNat_zero, Nat.zero_mul, Addr.add_zero'] at x0 x1 x2
  have b0 : decide ((L.length : Int) < 1) = false := decide_eq_false (by omega)
  have b1 : decide (L.length < 1) = false := decide_eq_false (by omega)
  have n0 : (0 : Int) < (L.length : Int) := by omega
  have n1 : 0 < L.length := by omega
  go_enter Tryd.func101, Tryd.ntmps101
  go_wp2
  have hk := blk_new (w.alloc (.cells #[.int .i32 0, .int .u32 0, .int .u32 0] 91)) (.cells #[.int .i32 (rd_T91 L 0).f0, .int .u32 (rd_T91 L 0).f1, .int .u32 (rd_T91 L 0).f2] 91)
  rw [World.size_alloc] at hk
  have K0 := Aside0.mk hk
  have Z0 := Aside0.mk (blk_alloc (blk_new w (.cells #[.int .i32 0, .int .u32 0, .int .u32 0] 91)) (.cells #[.int .i32 (rd_T91 L 0).f0, .int .u32 (rd_T91 L 0).f1, .int .u32 (rd_T91 L 0).f2] 91))
  have B0 := Aside0.mk (below_alloc (below_alloc (Below.refl _ w) (.cells #[.int .i32 0, .int .u32 0, .int .u32 0] 91)) (.cells #[.int .i32 (rd_T91 L 0).f0, .int .u32 (rd_T91 L 0).f1, .int .u32 (rd_T91 L 0).f2] 91))
  clear hk x0 x1 x2
  go_loopw [6] (fun v w' => ∃ i : Nat, 1 ≤ i ∧ i ≤ L.length ∧ v = .int .i64 i ∧ Aside0 (w'.heap[w.heap.size + 1]? = some (.cells #[.int .i32 (minN L z1 z2 (i - 1)).f0, .int .u32 (minN L z1 z2 (i - 1)).f1, .int .u32 (minN L z1 z2 (i - 1)).f2] 91 (0, 0))) ∧ Aside0 (w'.heap[w.heap.size]? = some (.cells #[.int .i32 0, .int .u32 0, .int .u32 0] 91 (0, 0))) ∧ Aside0 (Below w.heap.size w w')) (fun v _ => L.length - (intOf v).toNat)
  case atStart => exact ⟨1, by omega, hL, rfl, K0, Z0, B0⟩
  case round =>
    clear K0 B0 Z0
    obtain ⟨i, hi1, hi, rfl, HK, HZ, HB⟩ := hrel
    obtain ⟨q0, hq0⟩ : ∃ q, (minN L z1 z2 (i - 1)).f0 = q := ⟨_, rfl⟩
    obtain ⟨q1, hq1⟩ : ∃ q, (minN L z1 z2 (i - 1)).f1 = q := ⟨_, rfl⟩
    obtain ⟨q2, hq2⟩ : ∃ q, (minN L z1 z2 (i - 1)).f2 = q := ⟨_, rfl⟩
    rw [hq0, hq1, hq2] at HK
    have m0 : wr.cell? ⟨w.heap.size + 1, 0, none⟩ = some (.int .i32 q0) := (blk_cell HK.out 0).trans rfl
    have m1 : wr.cell? ⟨w.heap.size + 1, 1, none⟩ = some (.int .u32 q1) := (blk_cell HK.out 1).trans rfl
    have m2 : wr.cell? ⟨w.heap.size + 1, 2, none⟩ = some (.int .u32 q2) := (blk_cell HK.out 2).trans rfl
    rcases Nat.lt_or_ge i L.length with hlt | hge
    · have pp : 0 ≤ (i : Int) := by omega
      have pq : (i : Int) < (L.length : Int) := by omega
      obtain ⟨ad', ea, e0, e1, e2⟩ := at_T91 HR.out i pp pq
      cases ea
      rw [Int.toNat_natCast] at e0 e1 e2
      replace e0 := (HB.out.cell (World.block_lt_of_cell? w _ e0)).trans e0
      replace e1 := (HB.out.cell (World.block_lt_of_cell? w _ e1)).trans e1
      replace e2 := (HB.out.cell (World.block_lt_of_cell? w _ e2)).trans e2
      have g0 := (HB.out.cell (World.block_lt_of_cell? w _ H0.out)).trans H0.out
      have g1 := (HB.out.cell (World.block_lt_of_cell? w _ H1.out)).trans H1.out
      have g2 := (HB.out.cell (World.block_lt_of_cell? w _ H2.out)).trans H2.out
      obtain ⟨y0, hy0⟩ : ∃ q, (rd_T91 L i).f0 = q := ⟨_, rfl⟩
      obtain ⟨y1, hy1⟩ : ∃ q, (rd_T91 L i).f1 = q := ⟨_, rfl⟩
      obtain ⟨y2, hy2⟩ : ∃ q, (rd_T91 L i).f2 = q := ⟨_, rfl⟩
      rw [hy0] at e0
      rw [hy1] at e1
      rw [hy2] at e2
      have KZ := HZ.out
      have KK := HK.out
      have BB := HB.out
      by_cases hc : unl y1 y2 z1 z2 - unl q1 q2 z1 z2 < 0
      · have hcb : decide (unl y1 y2 z1 z2 - unl q1 q2 z1 z2 < 0) = true := decide_eq_true hc
        have HC := Aside0.mk hc
        clear hc
        go_wp2
        go_region_held3 (fun w' => w'.cell? (ad.add (i * 3)) = some (.int .i32 y0) ∧ w'.cell? ⟨(ad.add (i * 3)).block, (ad.add (i * 3)).off + 1, none⟩ = some (.int .u32 y1) ∧ w'.cell? ⟨(ad.add (i * 3)).block, (ad.add (i * 3)).off + 2, none⟩ = some (.int .u32 y2) ∧ w'.cell? ⟨w.heap.size + 1, 0, none⟩ = some (.int .i32 q0) ∧ w'.cell? ⟨w.heap.size + 1, 1, none⟩ = some (.int .u32 q1) ∧ w'.cell? ⟨w.heap.size + 1, 2, none⟩ = some (.int .u32 q2) ∧ w'.cell? ⟨B, 0, none⟩ = some (.int .i32 z0) ∧ w'.cell? ⟨B, 1, none⟩ = some (.int .u32 z1) ∧ w'.cell? ⟨B, 2, none⟩ = some (.int .u32 z2) ∧ w'.heap[w.heap.size + 1]? = some (.cells #[.int .i32 q0, .int .u32 q1, .int .u32 q2] 91 (0, 0)) ∧ w'.heap[w.heap.size]? = some (.cells #[.int .i32 0, .int .u32 0, .int .u32 0] 91 (0, 0)) ∧ Below w.heap.size w w') (first | exact ⟨e0, e1, e2, m0, m1, m2, g0, g1, g2, KK, KZ, below_drew1 BB⟩ | exact NS.step (ad := ad) (i := i) (B := B) (y0 := y0) (y1 := y1) (y2 := y2) (q0 := q0) (q1 := q1) (q2 := q2) (z0 := z0) (z1 := z1) (z2 := z2) (by unfold NS; with_reducible assumption) hb) ((go_at_call 102; refine (near_litS (ad := ad) (i := i) (B := B) (y0 := y0) (y1 := y1) (y2 := y2) (q0 := q0) (q1 := q1) (q2 := q2) (z0 := z0) (z1 := z1) (z2 := z2) (w := w) ?cS).mono ?_; (case cS => unfold NS; with_reducible assumption); rintro e w2 ⟨rfl, hb⟩))
        have hS : NS ad i B y0 y1 y2 q0 q1 q2 z0 z1 z2 w w2 := by unfold NS; with_reducible assumption
        obtain ⟨e0', e1', e2', m0', m1', m2', -, -, -, KK', KZ', BB'⟩ := hS
        have f0 := blk_frozen KK' 0
        have f1 := blk_frozen KK' 1
        have f2 := blk_frozen KK' 2
        have HKK := Aside0.mk KK'
        have HZZ := Aside0.mk KZ'
        have HBB := Aside0.mk BB'
        clear KK' KZ' BB' KK KZ BB
        go_wp2
        go_roundw
        case rel =>
          refine ⟨i + 1, by omega, by omega, by go_num, ⟨?_⟩, ⟨blk_far (blk_far (blk_far HZZ.out (by simp) _) (by simp) _) (by simp) _⟩, ⟨below_set (below_set (below_set HBB.out (by omega)) (by omega)) (by omega)⟩⟩
          rw [minN_step L z1 z2 i hi1, hy1, hy2, hq1, hq2, if_pos HC.out]
          rw [hy0, hy1, hy2]
          exact blk_put (cs := #[.int .i32 y0, .int .u32 y1, .int .u32 q2]) (blk_put (cs := #[.int .i32 y0, .int .u32 q1, .int .u32 q2]) (blk_put (cs := #[.int .i32 q0, .int .u32 q1, .int .u32 q2]) HKK.out 0 _ rfl) 1 _ rfl) 2 _ rfl
        case measure => simp [intOf]; omega
      · have hcb : decide (unl y1 y2 z1 z2 - unl q1 q2 z1 z2 < 0) = false := decide_eq_false hc
        have HC := Aside0.mk hc
        clear hc
        go_wp2
        go_region_held3 (fun w' => w'.cell? (ad.add (i * 3)) = some (.int .i32 y0) ∧ w'.cell? ⟨(ad.add (i * 3)).block, (ad.add (i * 3)).off + 1, none⟩ = some (.int .u32 y1) ∧ w'.cell? ⟨(ad.add (i * 3)).block, (ad.add (i * 3)).off + 2, none⟩ = some (.int .u32 y2) ∧ w'.cell? ⟨w.heap.size + 1, 0, none⟩ = some (.int .i32 q0) ∧ w'.cell? ⟨w.heap.size + 1, 1, none⟩ = some (.int .u32 q1) ∧ w'.cell? ⟨w.heap.size + 1, 2, none⟩ = some (.int .u32 q2) ∧ w'.cell? ⟨B, 0, none⟩ = some (.int .i32 z0) ∧ w'.cell? ⟨B, 1, none⟩ = some (.int .u32 z1) ∧ w'.cell? ⟨B, 2, none⟩ = some (.int .u32 z2) ∧ w'.heap[w.heap.size + 1]? = some (.cells #[.int .i32 q0, .int .u32 q1, .int .u32 q2] 91 (0, 0)) ∧ w'.heap[w.heap.size]? = some (.cells #[.int .i32 0, .int .u32 0, .int .u32 0] 91 (0, 0)) ∧ Below w.heap.size w w') (first | exact ⟨e0, e1, e2, m0, m1, m2, g0, g1, g2, KK, KZ, below_drew1 BB⟩ | exact NS.step (ad := ad) (i := i) (B := B) (y0 := y0) (y1 := y1) (y2 := y2) (q0 := q0) (q1 := q1) (q2 := q2) (z0 := z0) (z1 := z1) (z2 := z2) (by unfold NS; with_reducible assumption) hb) ((go_at_call 102; refine (near_litS (ad := ad) (i := i) (B := B) (y0 := y0) (y1 := y1) (y2 := y2) (q0 := q0) (q1 := q1) (q2 := q2) (z0 := z0) (z1 := z1) (z2 := z2) (w := w) ?cS).mono ?_; (case cS => unfold NS; with_reducible assumption); rintro e w2 ⟨rfl, hb⟩))
        have hS : NS ad i B y0 y1 y2 q0 q1 q2 z0 z1 z2 w w2 := by unfold NS; with_reducible assumption
        obtain ⟨e0', e1', e2', m0', m1', m2', -, -, -, KK', KZ', BB'⟩ := hS
        have f0 := blk_frozen KK' 0
        have f1 := blk_frozen KK' 1
        have f2 := blk_frozen KK' 2
        have HKK := Aside0.mk KK'
        have HZZ := Aside0.mk KZ'
        have HBB := Aside0.mk BB'
        clear KK' KZ' BB' KK KZ BB
        go_wp2
        go_roundw
        case rel =>
          refine ⟨i + 1, by omega, by omega, by go_num, ⟨?_⟩, HZZ, HBB⟩
          rw [minN_step L z1 z2 i hi1, hy1, hy2, hq1, hq2, if_neg (Int.not_lt.2 HC.out), hq0, hq1, hq2]
          exact HKK.out
        case measure => simp [intOf]; omega
    · obtain rfl : i = L.length := by omega
      have r0 : wr.cell? ⟨w.heap.size, 0, none⟩ = some (.int .i32 0) := (blk_cell HZ.out 0).trans rfl
      have r1 : wr.cell? ⟨w.heap.size, 1, none⟩ = some (.int .u32 0) := (blk_cell HZ.out 1).trans rfl
      have r2 : wr.cell? ⟨w.heap.size, 2, none⟩ = some (.int .u32 0) := (blk_cell HZ.out 2).trans rfl
      have f0 := blk_frozen HZ.out 0
      have f1 := blk_frozen HZ.out 1
      have f2 := blk_frozen HZ.out 2
      go_wp2
      refine bodyPost_ret (results_cell_row rfl _ _ w.heap.size 91 #[.int .i32 q0, .int .u32 q1, .int .u32 q2] (0, 0) _ rfl (blk_put (cs := #[.int .i32 q0, .int .u32 q1, .int .u32 0]) (blk_put (cs := #[.int .i32 q0, .int .u32 0, .int .u32 0]) (blk_put (cs := #[.int .i32 0, .int .u32 0, .int .u32 0]) HZ.out 0 _ rfl) 1 _ rfl) 2 _ rfl) Tryd.underlying91 rfl (by kernel_rfl)) rfl ?_
      rw [hq0, hq1, hq2]
      exact ⟨rfl, below_set (below_set (below_set HB.out (by omega)) (by omega)) (by omega)⟩
end Go.Proofs.YtjnikjnkmcbjfabDoor.X
