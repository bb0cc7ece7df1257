/- feature.Of, walked: the first letter of a rune. -/
import Derived.Test.YtjnikjnkmcbjfabDoorGCheck
namespace Go.Proofs.YtjnikjnkmcbjfabDoor.X
open Go.RowKit Go.Proofs.YtjnikjnkmcbjfabDoorW.PrintWords Go.Proofs.YtjnikjnkmcbjfabDoorW.PrintLast Go.Proofs.YtjnikjnkmcbjfabDoorW.PrintMore
/-- The number of the first letter of a rune; -1: there is none. -/
def idxR (L : List S91) (r : Int) : Int := match L.findIdx? (fun x => x.f0 == r) with | some i => (i : Int) | none => -1
theorem idxR_none {L : List S91} {r : Int} (h : ∀ j, j < L.length → (rd_T91 L j).f0 ≠ r) : idxR L r = -1 := by
  unfold idxR
  rw [List.findIdx?_eq_none_iff.2 (fun x hx => ?_)]
  obtain ⟨j, hj, rfl⟩ := List.getElem_of_mem hx
  have := h j hj
  simp only [rd_T91, Int.toNat_natCast, List.getD_eq_getElem?_getD, List.getElem?_eq_getElem hj, Option.getD_some] at this
  simpa using this
theorem idxR_some {L : List S91} {r : Int} {i : Nat} (hi : i < L.length) (hr : (rd_T91 L i).f0 = r) (h : ∀ j, j < i → (rd_T91 L j).f0 ≠ r) : idxR L r = i := by
  unfold idxR
  have e : L.findIdx? (fun x => x.f0 == r) = some i := by
    rw [List.findIdx?_eq_some_iff_getElem]
    refine ⟨hi, ?_, fun j hj => ?_⟩
    · simp only [rd_T91, Int.toNat_natCast, List.getD_eq_getElem?_getD, List.getElem?_eq_getElem hi, Option.getD_some] at hr
      simpa using hr
    · have := h j hj
      simp only [rd_T91, Int.toNat_natCast, List.getD_eq_getElem?_getD, List.getElem?_eq_getElem (Nat.lt_trans hj hi), Option.getD_some] at this
      simpa using this
  rw [e]
theorem idxR_cases (L : List S91) (r : Int) : (idxR L r = -1 ∧ ∀ j, j < L.length → (rd_T91 L j).f0 ≠ r) ∨ ∃ i : Nat, i < L.length ∧ idxR L r = i ∧ (rd_T91 L i).f0 = r ∧ ∀ j, j < i → (rd_T91 L j).f0 ≠ r := by
  rcases e : L.findIdx? (fun x => x.f0 == r) with _ | i
  · left
    refine ⟨by simp [idxR, e], fun j hj => ?_⟩
    have := List.findIdx?_eq_none_iff.1 e L[j] (List.getElem_mem hj)
    simp only [rd_T91, Int.toNat_natCast, List.getD_eq_getElem?_getD, List.getElem?_eq_getElem hj, Option.getD_some]
    simpa using this
  · right
    obtain ⟨hi, h1, h2⟩ := List.findIdx?_eq_some_iff_getElem.1 e
    refine ⟨i, hi, by simp [idxR, e], ?_, fun j hj => ?_⟩
    · simp only [rd_T91, Int.toNat_natCast, List.getD_eq_getElem?_getD, List.getElem?_eq_getElem hi, Option.getD_some]
      simpa using h1
    · have := h2 j hj
      simp only [rd_T91, Int.toNat_natCast, List.getD_eq_getElem?_getD, List.getElem?_eq_getElem (Nat.lt_trans hj hi), Option.getD_some]
      simpa using this
set_option maxHeartbeats 1000000 in
set_option maxRecDepth 100000 in
/-- The literal 'l.Rune == r'. -/
theorem of_lit (x0 x1 x2 r : Int) (B : Nat) (w : World) (b : Bool) (hb : (x0 == r) = b) (hB : w.cell? ⟨B, 0, none⟩ = some (.int .i32 r)) :
    Calls Tryd.prog 100 #[.agg #[.int .i32 x0, .int .u32 x1, .int .u32 x2], .pointer (some ⟨B, 0, none⟩)] w fun e w' => e = .returned (.bool b) ∧ Below w.heap.size w w' := by
  have hlt := World.block_lt_of_cell? w _ hB
  have hB2 : (w.alloc (.cells #[.int .i32 x0, .int .u32 x1, .int .u32 x2] 91)).cell? ⟨B, 0, none⟩ = some (.int .i32 r) := (below_alloc (Below.refl _ w) _).cell hlt |>.trans hB
  go_enter Tryd.func100, Tryd.ntmps100
  go_wp2
  go_ret
  exact ⟨rfl, below_alloc (Below.refl _ w) _⟩
set_option maxHeartbeats 1000000 in
set_option maxRecDepth 100000 in
theorem of_index (A : Option Addr) (c : Nat) (L : List S91) (r : Int) (B : Nat) (w : World) (hB : w.cell? ⟨B, 0, none⟩ = some (.int .i32 r)) (hr : Kd.C k91 w A L.length L) :
    Calls Tryd.prog 97 #[.slice A L.length c, .func (.func 100) #[] #[.pointer (some ⟨B, 0, none⟩)]] w fun e w' => e = .returned (.int .i64 (idxR L r)) ∧ Below w.heap.size w w' := by
  have HR := Aside0.mk hr
  have HX := Aside0.mk hB
  have hlen : L.length ≤ 9223372036854775807 := hr.2.1
  clear hr hB
  go_enter Tryd.func97, Tryd.ntmps97
  go_wp2
  go_loopw [8] (fun v w' => ∃ i : Nat, i ≤ L.length ∧ v = .int .i64 i ∧ Aside0 (∀ j, j < i → (rd_T91 L j).f0 ≠ r) ∧ Aside0 (Below w.heap.size w w')) (fun v _ => L.length - (intOf v).toNat)
  case atStart => exact ⟨0, by omega, rfl, ⟨fun j hj => absurd hj (Nat.not_lt_zero _)⟩, ⟨Below.refl _ _⟩⟩
  case round =>
    obtain ⟨i, hi, rfl, HF, HB⟩ := hrel
    rcases Nat.lt_or_ge i L.length with hlt | hge
    · have p0 : 0 ≤ (i : Int) := by omega
      have q0 : (i : Int) < (L.length : Int) := by omega
      obtain ⟨ad, ea, hx0, hx1, hx2⟩ := at_T91 HR.out i p0 q0
      cases ea
      replace hx0 := (HB.out.cell (World.block_lt_of_cell? w _ hx0)).trans hx0
      replace hx1 := (HB.out.cell (World.block_lt_of_cell? w _ hx1)).trans hx1
      replace hx2 := (HB.out.cell (World.block_lt_of_cell? w _ hx2)).trans hx2
      rw [Int.toNat_natCast] at hx0 hx1 hx2
      rcases hd : ((rd_T91 L i).f0 == r) with _ | _
      · have HD := Aside0.mk hd
        clear hd
        go_wp2_with (go_at_call 100; refine (of_lit _ _ _ r B _ false HD.out ((HB.out.cell (World.block_lt_of_cell? w _ HX.out)).trans HX.out)).mono ?_; rintro e w2 ⟨rfl, hb⟩)
        go_roundw
        case rel =>
          refine ⟨i + 1, by omega, by go_num, ⟨fun j hj => ?_⟩, ⟨below_step HB.out hb⟩⟩
          rcases Nat.lt_or_ge j i with h | h
          · exact HF.out j h
          · obtain rfl : j = i := by omega
            simpa using HD.out
        case measure => simp [intOf]; omega
      · have HD := Aside0.mk hd
        clear hd
        go_wp2_with (go_at_call 100; refine (of_lit _ _ _ r B _ true HD.out ((HB.out.cell (World.block_lt_of_cell? w _ HX.out)).trans HX.out)).mono ?_; rintro e w2 ⟨rfl, hb⟩)
        go_ret
        exact ⟨by rw [idxR_some hlt (by simpa using HD.out) HF.out]; rfl, below_step HB.out hb⟩
    · obtain rfl : i = L.length := by omega
      go_wp2
      go_ret
      exact ⟨by rw [idxR_none HF.out]; rfl, HB.out⟩
def feature_Of.f (l0_0 : List ByteArray) (l0_1 : List S91) (a1 : Int) : Option (Int × Int × Int × Int) :=
  if checkB l0_0 l0_1 = true then (if idxR l0_1 a1 < 0 then some (0, 0, 0, 5) else some ((rd_T91 l0_1 (idxR l0_1 a1)).f0, (rd_T91 l0_1 (idxR l0_1 a1)).f1, (rd_T91 l0_1 (idxR l0_1 a1)).f2, 0)) else some (0, 0, 0, 7)
set_option maxHeartbeats 1000000 in
set_option maxRecDepth 100000 in
theorem feature_Of.calls (A0_0 : Option Addr) (c0_0 : Nat) (l0_0 : List ByteArray) (A0_1 : Option Addr) (c0_1 : Nat) (l0_1 : List S91) (a1 : Int) (r1 : Int) (r2 : Int) (r3 : Int) (r4 : Int) (w : World) (hr0_0 : Kd.C Kd.string w A0_0 l0_0.length l0_0) (hc0_0 : l0_0.length ≤ c0_0) (hr0_1 : Kd.C k91 w A0_1 l0_1.length l0_1) (hc0_1 : l0_1.length ≤ c0_1) (h : feature_Of.f l0_0 l0_1 a1 = some (r1, r2, r3, r4)) :
    Calls Tryd.prog 82 #[.agg #[.slice A0_0 l0_0.length c0_0, .slice A0_1 l0_1.length c0_1], .int .i32 a1] w fun e w' => e = .returned (.tuple #[.agg #[.int .i32 r1, .int .u32 r2, .int .u32 r3], .int .i64 r4]) ∧ Below w.heap.size w w' := by
  have HR0 := Aside0.mk hr0_0
  have HC0 := Aside0.mk hc0_0
  have HR1 := Aside0.mk hr0_1
  have HC1 := Aside0.mk hc0_1
  clear hr0_0 hc0_0 hr0_1 hc0_1
  have hka := blk_alloc (blk_alloc (blk_new w (.cells #[.slice A0_0 l0_0.length c0_0, .slice A0_1 l0_1.length c0_1] 25)) (.cells #[.int .i32 a1] 21)) (.cells #[.int .i32 0, .int .u32 0, .int .u32 0] 91)
  have hkr := blk_alloc (blk_new (w.alloc (.cells #[.slice A0_0 l0_0.length c0_0, .slice A0_1 l0_1.length c0_1] 25)) (.cells #[.int .i32 a1] 21)) (.cells #[.int .i32 0, .int .u32 0, .int .u32 0] 91)
  have hkz := blk_new ((w.alloc (.cells #[.slice A0_0 l0_0.length c0_0, .slice A0_1 l0_1.length c0_1] 25)).alloc (.cells #[.int .i32 a1] 21)) (.cells #[.int .i32 0, .int .u32 0, .int .u32 0] 91)
  have hbw : Below w.heap.size w (((w.alloc (.cells #[.slice A0_0 l0_0.length c0_0, .slice A0_1 l0_1.length c0_1] 25)).alloc (.cells #[.int .i32 a1] 21)).alloc (.cells #[.int .i32 0, .int .u32 0, .int .u32 0] 91)) := below_alloc (below_alloc (below_alloc (Below.refl _ w) _) _) _
  simp only [World.size_alloc] at hkr hkz
  have KA := Aside0.mk hka
  have KR := Aside0.mk hkr
  have KZ := Aside0.mk hkz
  have BW := Aside0.mk hbw
  clear hka hkr hkz hbw
  have HL := Aside0.mk (show ∀ k, feature_Check.f l0_0 l0_1 = some k ↔ k = (if checkB l0_0 l0_1 = true then 0 else 7) from fun k => by simp [feature_Check.f]; exact eq_comm)
  rcases hck : checkB l0_0 l0_1 with _ | _
  · simp only [feature_Of.f, hck, Option.some.injEq, Prod.mk.injEq, Bool.false_eq_true, if_false] at h
    obtain ⟨rfl, rfl, rfl, rfl⟩ := h
    have HC := Aside0.mk ((HL.out 7).2 (by rw [hck]; rfl))
    clear hck HL
    go_enter Tryd.func82, Tryd.ntmps82
    go_wp2_with fail
    refine (feature_Check.calls _ _ l0_0 _ _ l0_1 7 _ (Kd.C_below HR0.out BW.out) HC0.out (Kd.C_below HR1.out BW.out) HC1.out HC.out).mono ?_
    rintro e w2 ⟨rfl, hb⟩
    have hz2 := blk_below KZ.out hb
    have z0 : w2.cell? ⟨w.heap.size + 1 + 1, 0, none⟩ = some (.int .i32 0) := (blk_cell hz2 0).trans rfl
    have z1 : w2.cell? ⟨w.heap.size + 1 + 1, 1, none⟩ = some (.int .u32 0) := (blk_cell hz2 1).trans rfl
    have z2 : w2.cell? ⟨w.heap.size + 1 + 1, 2, none⟩ = some (.int .u32 0) := (blk_cell hz2 2).trans rfl
    have f0 := blk_frozen hz2 0
    have f1 := blk_frozen hz2 1
    have f2 := blk_frozen hz2 2
    have Z2 := Aside0.mk hz2
    have B2 := Aside0.mk (below_step BW.out hb)
    clear hz2 hb
    go_wp2
    refine bodyPost_ret (results_ct rfl _ _ (w.heap.size + 1 + 1) 91 #[.int .i32 0, .int .u32 0, .int .u32 0] (0, 0) _ rfl (blk_put (cs := #[.int .i32 0, .int .u32 0, .int .u32 0]) (blk_put (cs := #[.int .i32 0, .int .u32 0, .int .u32 0]) (blk_put (cs := #[.int .i32 0, .int .u32 0, .int .u32 0]) Z2.out 0 _ rfl) 1 _ rfl) 2 _ rfl) Tryd.underlying91 rfl (by kernel_rfl)) rfl ?_
    exact ⟨rfl, below_set (below_set (below_set B2.out (by omega)) (by omega)) (by omega)⟩
  · have HC := Aside0.mk ((HL.out 0).2 (by rw [hck]; rfl))
    simp only [feature_Of.f, hck, if_true] at h
    clear hck HL
    have HI := Aside0.mk (idxR_cases l0_1 a1)
    have HQ := Aside0.mk h
    clear h
    have HX := Aside0.mk (fun (W : World) (hW : Below w.heap.size w W) (hR : W.heap[w.heap.size + 1]? = some (.cells #[.int .i32 a1] 21 (0, 0))) => of_index A0_1 c0_1 l0_1 a1 (w.heap.size + 1) W ((blk_cell hR 0).trans rfl) (Kd.C_below HR1.out hW))
    go_enter Tryd.func82, Tryd.ntmps82
    go_wp2_with fail
    refine (feature_Check.calls _ _ l0_0 _ _ l0_1 0 _ (Kd.C_below HR0.out BW.out) HC0.out (Kd.C_below HR1.out BW.out) HC1.out HC.out).mono ?_
    rintro e w2 ⟨rfl, hb⟩
    have B2 := Aside0.mk (below_step BW.out hb)
    have Z2 := Aside0.mk (blk_below KZ.out hb)
    have R2 := Aside0.mk (blk_below KR.out hb)
    have A2 := Aside0.mk (blk_below KA.out hb)
    clear hb BW KZ KR KA
    have a0 : w2.cell? ⟨w.heap.size, 0, none⟩ = some (.slice A0_0 l0_0.length c0_0) := (blk_cell A2.out 0).trans rfl
    have a1_ : w2.cell? ⟨w.heap.size, 1, none⟩ = some (.slice A0_1 l0_1.length c0_1) := (blk_cell A2.out 1).trans rfl
    rcases HI.out with ⟨he, hn⟩ | ⟨i, hi, he, hf, hn⟩
    · have HX2 := HX.out w2 B2.out R2.out
      have HQ2 := HQ.out
      rw [he] at HX2 HQ2
      simp only [if_pos (show (-1 : Int) < 0 by omega), Option.some.injEq, Prod.mk.injEq] at HQ2
      obtain ⟨rfl, rfl, rfl, rfl⟩ := HQ2
      have HX3 := Aside0.mk HX2
      clear HX HX2 HQ HI he hn
      go_wp2_with fail
      refine HX3.out.mono ?_
      rintro e w3 ⟨rfl, hb⟩
      have hz2 := blk_below Z2.out hb
      have z0 : w3.cell? ⟨w.heap.size + 1 + 1, 0, none⟩ = some (.int .i32 0) := (blk_cell hz2 0).trans rfl
      have z1 : w3.cell? ⟨w.heap.size + 1 + 1, 1, none⟩ = some (.int .u32 0) := (blk_cell hz2 1).trans rfl
      have z2 : w3.cell? ⟨w.heap.size + 1 + 1, 2, none⟩ = some (.int .u32 0) := (blk_cell hz2 2).trans rfl
      have f0 := blk_frozen hz2 0
      have f1 := blk_frozen hz2 1
      have f2 := blk_frozen hz2 2
      have Z3 := Aside0.mk hz2
      have B3 := Aside0.mk (below_step B2.out hb)
      clear hz2 hb
      go_wp2
      refine bodyPost_ret (results_ct rfl _ _ (w.heap.size + 1 + 1) 91 #[.int .i32 0, .int .u32 0, .int .u32 0] (0, 0) _ rfl (blk_put (cs := #[.int .i32 0, .int .u32 0, .int .u32 0]) (blk_put (cs := #[.int .i32 0, .int .u32 0, .int .u32 0]) (blk_put (cs := #[.int .i32 0, .int .u32 0, .int .u32 0]) Z3.out 0 _ rfl) 1 _ rfl) 2 _ rfl) Tryd.underlying91 rfl (by kernel_rfl)) rfl ?_
      exact ⟨rfl, below_set (below_set (below_set B3.out (by omega)) (by omega)) (by omega)⟩
    · have HX2 := HX.out w2 B2.out R2.out
      have HQ2 := HQ.out
      rw [he] at HX2 HQ2
      simp only [if_neg (show ¬ ((i : Int) < 0) by omega), Option.some.injEq, Prod.mk.injEq] at HQ2
      obtain ⟨rfl, rfl, rfl, rfl⟩ := HQ2
      have HX3 := Aside0.mk HX2
      clear HX HX2 HQ HI he hn hf
      have p0 : 0 ≤ (i : Int) := by omega
      have q0 : (i : Int) < (l0_1.length : Int) := by omega
      obtain ⟨ad, ea, hx0, hx1, hx2⟩ := at_T91 HR1.out i p0 q0
      cases ea
      have X0 := Aside0.mk hx0
      have X1 := Aside0.mk hx1
      have X2 := Aside0.mk hx2
      clear hx0 hx1 hx2
      go_wp2_with fail
      refine HX3.out.mono ?_
      rintro e w3 ⟨rfl, hb⟩
      have B3 := Aside0.mk (below_step B2.out hb)
      have hx0 := (B3.out.cell (World.block_lt_of_cell? w _ X0.out)).trans X0.out
      have hx1 := (B3.out.cell (World.block_lt_of_cell? w _ X1.out)).trans X1.out
      have hx2 := (B3.out.cell (World.block_lt_of_cell? w _ X2.out)).trans X2.out
      rw [Int.toNat_natCast] at hx0 hx1 hx2
      have a0 : w3.cell? ⟨w.heap.size, 0, none⟩ = some (.slice A0_0 l0_0.length c0_0) := (blk_cell (blk_below A2.out hb) 0).trans rfl
      have a1_ : w3.cell? ⟨w.heap.size, 1, none⟩ = some (.slice (some ad) l0_1.length c0_1) := (blk_cell (blk_below A2.out hb) 1).trans rfl
      have hz2 := blk_below Z2.out hb
      have z0 : w3.cell? ⟨w.heap.size + 1 + 1, 0, none⟩ = some (.int .i32 0) := (blk_cell hz2 0).trans rfl
      have z1 : w3.cell? ⟨w.heap.size + 1 + 1, 1, none⟩ = some (.int .u32 0) := (blk_cell hz2 1).trans rfl
      have z2 : w3.cell? ⟨w.heap.size + 1 + 1, 2, none⟩ = some (.int .u32 0) := (blk_cell hz2 2).trans rfl
      have f0 := blk_frozen hz2 0
      have f1 := blk_frozen hz2 1
      have f2 := blk_frozen hz2 2
      have Z3 := Aside0.mk hz2
      clear hz2 hb
      go_wp2
      refine bodyPost_ret (results_ct rfl _ _ (w.heap.size + 1 + 1) 91 #[.int .i32 (rd_T91 l0_1 i).f0, .int .u32 (rd_T91 l0_1 i).f1, .int .u32 (rd_T91 l0_1 i).f2] (0, 0) _ rfl (blk_put (cs := #[.int .i32 (rd_T91 l0_1 i).f0, .int .u32 (rd_T91 l0_1 i).f1, .int .u32 0]) (blk_put (cs := #[.int .i32 (rd_T91 l0_1 i).f0, .int .u32 0, .int .u32 0]) (blk_put (cs := #[.int .i32 0, .int .u32 0, .int .u32 0]) Z3.out 0 _ rfl) 1 _ rfl) 2 _ rfl) Tryd.underlying91 rfl (by kernel_rfl)) rfl ?_
      exact ⟨rfl, below_set (below_set (below_set B3.out (by omega)) (by omega)) (by omega)⟩
/-! ### what feature.Text writes and feature.Parse reads, in plain words -/
/-- Is a byte one of a to z? -/
def abcB (b : UInt8) : Bool := decide (97 ≤ b.toNat ∧ b.toNat ≤ 122)
/-- The number of the first feature of a name; -1: there is none. -/
def idxS (F : List ByteArray) (s : List UInt8) : Int := match F.findIdx? (fun f => f.data.toList == s) with | some i => (i : Int) | none => -1
/-- Is a feature's bit set in a mask? -/
def bitB (p : Int) (i : Int) : Bool := Go.bits .and .u32 (shr .u32 p i) 1 == 1
/-- What is read of a text from a place on. -/
def parseL (F : List ByteArray) : Nat → List UInt8 → Int → Int → Int → Int × Int × Int × Int
  | 0, _, at_, _, _ => (0, 0, at_, 20)
  | _ + 1, [], _, p, m => (p, m, 0, 0)
  | k + 1, c :: t, at_, p, m =>
    if (c = 43 ∨ c = 45) ∧ 0 ≤ idxS F (t.takeWhile abcB) ∧ bitB (Go.bits .or .u32 p m) (idxS F (t.takeWhile abcB)) = false then
      (if c = 43 then parseL F k (t.drop (t.takeWhile abcB).length) (at_ + 1 + (t.takeWhile abcB).length) (Go.bits .or .u32 p (shl .u32 1 (idxS F (t.takeWhile abcB)))) m
       else parseL F k (t.drop (t.takeWhile abcB).length) (at_ + 1 + (t.takeWhile abcB).length) p (Go.bits .or .u32 m (shl .u32 1 (idxS F (t.takeWhile abcB)))))
    else (0, 0, at_, 20)
/-- What feature.Parse tells. -/
def parseV (F : List ByteArray) (L : List S91) (s : ByteArray) : Int × Int × Int × Int :=
  if checkB F L = true then (if 65536 < s.size then (0, 0, 0, 3) else parseL F (s.size + 1) s.data.toList 0 0 0) else (0, 0, 0, 7)
/-- What feature.Text writes of feature n. -/
def signL (F : List ByteArray) (p m : Int) (n : Nat) : List UInt8 :=
  if bitB p n = true then 43 :: (rdOf ByteArray.empty F n).data.toList else if bitB m n = true then 45 :: (rdOf ByteArray.empty F n).data.toList else []
/-- What it writes of the first n features. -/
def textL (F : List ByteArray) (p m : Int) : Nat → List UInt8
  | 0 => []
  | n + 1 => textL F p m n ++ signL F p m n
/-- What feature.Text tells. -/
def textV (F : List ByteArray) (L : List S91) (p m : Int) : ByteArray × Int :=
  if checkB F L = true then (if withinB F p m = true then (⟨(textL F p m F.length).toArray⟩, 0) else (⟨#[]⟩, 20)) else (⟨#[]⟩, 7)
theorem idxS_cases (F : List ByteArray) (s : List UInt8) : (idxS F s = -1 ∧ ∀ j, j < F.length → (rdOf ByteArray.empty F j).data.toList ≠ s) ∨ ∃ i : Nat, i < F.length ∧ idxS F s = i ∧ (rdOf ByteArray.empty F i).data.toList = s ∧ ∀ j, j < i → (rdOf ByteArray.empty F j).data.toList ≠ s := by
  rcases e : F.findIdx? (fun f => f.data.toList == s) with _ | i
  · left
    refine ⟨by simp [idxS, e], fun j hj => ?_⟩
    have := List.findIdx?_eq_none_iff.1 e F[j] (List.getElem_mem hj)
    simp only [rdOf, Int.toNat_natCast, List.getD_eq_getElem?_getD, List.getElem?_eq_getElem hj, Option.getD_some]
    simpa using this
  · right
    obtain ⟨hi, h1, h2⟩ := List.findIdx?_eq_some_iff_getElem.1 e
    refine ⟨i, hi, by simp [idxS, e], ?_, fun j hj => ?_⟩
    · simp only [rdOf, Int.toNat_natCast, List.getD_eq_getElem?_getD, List.getElem?_eq_getElem hi, Option.getD_some]
      simpa using h1
    · have := h2 j hj
      simp only [rdOf, Int.toNat_natCast, List.getD_eq_getElem?_getD, List.getElem?_eq_getElem (Nat.lt_trans hj hi), Option.getD_some]
      simpa using this
theorem signL_len (F : List ByteArray) (p m : Int) (n : Nat) (h : (rdOf ByteArray.empty F n).size ≤ 32) : (signL F p m n).length ≤ 33 := by
  have e : (rdOf ByteArray.empty F n).data.toList.length = (rdOf ByteArray.empty F n).size := rfl
  unfold signL
  split
  · rw [List.length_cons, e]; omega
  · split
    · rw [List.length_cons, e]; omega
    · simp
theorem textL_len (F : List ByteArray) (p m : Int) (n : Nat) (h : ∀ j, j < n → (rdOf ByteArray.empty F j).size ≤ 32) : (textL F p m n).length ≤ 33 * n := by
  induction n with
  | zero => simp [textL]
  | succ n ih =>
    have := ih (fun j hj => h j (by omega))
    have := signL_len F p m n (h n (by omega))
    simp only [textL, List.length_append]
    omega
theorem check_name {F : List ByteArray} {L : List S91} (h : checkB F L = true) (j : Nat) (hj : j < F.length) : nameB (rdOf ByteArray.empty F j) = true ∧ dupB F j = false := by
  simp only [checkB, Bool.and_eq_true] at h
  have h2 := h.1.2
  simp only [featsB, List.all_eq_true, List.mem_range, Bool.and_eq_true, Bool.not_eq_true'] at h2
  exact h2 j hj
theorem check_feats {F : List ByteArray} {L : List S91} (h : checkB F L = true) : F.length ≤ 24 ∧ 1 ≤ L.length ∧ L.length ≤ 128 := by
  simp only [checkB, Bool.and_eq_true, decide_eq_true_eq] at h
  exact ⟨h.1.1.1.1, h.1.1.1.2, h.1.1.2⟩
end Go.Proofs.YtjnikjnkmcbjfabDoor.X
