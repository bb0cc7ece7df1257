/- feature.Text, walked: a class's text. -/
import Derived.Test.YtjnikjnkmcbjfaaDoorGOf
import Derived.Test.YtjnikjnkmcbjfaaDoorShelf0
import Derived.Test.YtjnikjnkmcbjfaaDoorX3
import Derived.Lib.UnsafeStr
namespace Go.Proofs.YtjnikjnkmcbjfaaDoor.X
open Go.RowKit Go.Proofs.YtjnikjnkmcbjfaaDoorW.PrintWords Go.Proofs.YtjnikjnkmcbjfaaDoorW.PrintLast Go.Proofs.YtjnikjnkmcbjfaaDoorW.PrintMore
def lays166_ren : Go.Shelf.Ren := ⟨fun | 166 => 82 | 240 => 98 | 276 => 112 | n => n, fun | 70 => 101 | 72 => 103 | 37 => 54 | 3 => 3 | 4 => 4 | 5 => 5 | 9 => 9 | 75 => 105 | 80 => 108 | 164 => 140 | n => n, fun n => n⟩
theorem lays166 : Go.Proofs.Lays.n166 Tryd.prog lays166_ren := {
  mixed := by kernel_rfl
  f166 := Tryd.func82.trans (congrArg some (by kernel_rfl))
  f240 := Tryd.func98.trans (congrArg some (by kernel_rfl))
  f276 := Tryd.func112.trans (congrArg some (by kernel_rfl))
  t0 := Tryd.underlying0
  a0 := Tryd.isAgg0
  z0 := Tryd.sizeOf0
  v0 := Tryd.zeroValue0
  t3 := Tryd.underlying3
  a3 := Tryd.isAgg3
  z3 := Tryd.sizeOf3
  v3 := Tryd.zeroValue3
  t4 := Tryd.underlying4
  a4 := Tryd.isAgg4
  z4 := Tryd.sizeOf4
  v4 := Tryd.zeroValue4
  t9 := Tryd.underlying9
  a9 := Tryd.isAgg9
  z9 := Tryd.sizeOf9
  v9 := Tryd.zeroValue9
  t20 := Tryd.underlying20
  a20 := Tryd.isAgg20
  z20 := Tryd.sizeOf20
  v20 := Tryd.zeroValue20
  t37 := Tryd.underlying54
  a37 := Tryd.isAgg54
  z37 := Tryd.sizeOf54
  v37 := Tryd.zeroValue54
  t70 := Tryd.underlying101
  a70 := Tryd.isAgg101
  z70 := Tryd.sizeOf101
  v70 := Tryd.zeroValue101
  t72 := Tryd.underlying103
  a72 := Tryd.isAgg103
  z72 := Tryd.sizeOf103
  v72 := Tryd.zeroValue103
  t75 := Tryd.underlying105
  a75 := Tryd.isAgg105
  z75 := Tryd.sizeOf105
  v75 := Tryd.zeroValue105
  t164 := Tryd.underlying140
  a164 := Tryd.isAgg140
  z164 := Tryd.sizeOf140
  v164 := Tryd.zeroValue140 }
theorem builderExtra : Builder.Extra Tryd.prog lays166_ren := {
  sizeBuilder := by kernel_rfl
  liesBuilder := by kernel_rfl
  t5 := Tryd.underlying5
  a5 := Tryd.isAgg5
  z5 := Tryd.sizeOf5
  v5 := Tryd.zeroValue5
  infoByte := by kernel_rfl
  cellsByte := by kernel_rfl
  sizeByte := by kernel_rfl
  neB5 := by decide }
theorem write_string (B b : Nat) (l : List UInt8) (s : ByteArray) (w : World) (h : Lib.IsBuilderF 103 5 B b (Lib.byteCells l) w) (hlen : l.length + s.size ≤ 1000000) (hBw : B ≤ w.heap.size) :
    Calls Tryd.prog 82 #[.pointer (some ⟨b, 0, none⟩), .string s] w fun e w' => e = .returned (.tuple #[.int .i64 s.size, .nilIface]) ∧ Lib.IsBuilderF 103 5 B b (Lib.byteCells (l ++ s.data.toList)) w' ∧ Below B w w' := by
  refine (Any.Builder_WriteString_f lays166 builderExtra B b (Lib.byteCells l) s w h (by rw [Lib.byteCells_length]; omega) hBw).mono ?_
  rintro e w' ⟨he, hb, hB⟩
  exact ⟨he, Or.inr (by rw [Lib.byteCells_append, ← Lib.strCells_eq]; exact hb), hB⟩
theorem string_any (B b : Nat) (l : List UInt8) (w : World) (h : Lib.IsBuilderF 103 5 B b (Lib.byteCells l) w) (hBw : B ≤ w.heap.size) :
    Calls Tryd.prog 83 #[.pointer (some ⟨b, 0, none⟩)] w fun e w' => e = .returned (.string ⟨l.toArray⟩) ∧ Below B w w' :=
  (Any.Builder_String_any_f Tryd.lays169 Tryd.Builder_Extra_169 B b l w h hBw).mono fun _ _ ⟨he, _, hB⟩ => ⟨he, hB⟩
def feature_Text.f (l0_0 : List ByteArray) (l0_1 : List S53) (a1 : Int) (a2 : Int) : Option (ByteArray × Int) := some (textV l0_0 l0_1 a1 a2)
theorem below_both {w0 w1 w2 : World} {B : Nat} (h : Below w0.heap.size w0 w1) (hB : w0.heap.size ≤ B) (k : Below B w1 w2) : Below w0.heap.size w0 w2 := below_weaken h hB k
set_option maxHeartbeats 2000000 in
set_option maxRecDepth 100000 in
theorem feature_Text.calls (A0_0 : Option Addr) (c0_0 : Nat) (l0_0 : List ByteArray) (A0_1 : Option Addr) (c0_1 : Nat) (l0_1 : List S53) (a1 : Int) (a2 : Int) (r1 : ByteArray) (r2 : Int) (w : World) (hr0_0 : Kd.C Kd.string w A0_0 l0_0.length l0_0) (hc0_0 : l0_0.length ≤ c0_0) (hr0_1 : Kd.C k53 w A0_1 l0_1.length l0_1) (hc0_1 : l0_1.length ≤ c0_1) (h : feature_Text.f l0_0 l0_1 a1 a2 = some (r1, r2)) :
    Calls Tryd.prog 44 #[.agg #[.slice A0_0 l0_0.length c0_0, .slice A0_1 l0_1.length c0_1], .int .u32 a1, .int .u32 a2] w fun e w' => e = .returned (.tuple #[.string r1, .int .i64 r2]) ∧ Below w.heap.size w w' := by
  have HR0 := Aside0.mk hr0_0
  have HC0 := Aside0.mk hc0_0
  have HR1 := Aside0.mk hr0_1
  have HC1 := Aside0.mk hc0_1
  have BW := Aside0.mk (below_alloc (Below.refl _ w) (.cells #[.slice A0_0 l0_0.length c0_0, .slice A0_1 l0_1.length c0_1] 25))
  have KA := Aside0.mk (blk_new w (.cells #[.slice A0_0 l0_0.length c0_0, .slice A0_1 l0_1.length c0_1] 25))
  clear hr0_0 hc0_0 hr0_1 hc0_1
  have h := Option.some.inj h
  unfold textV at h
  rcases hck : checkB l0_0 l0_1 with _ | _
  · rw [hck] at h
    simp only [Bool.false_eq_true, if_false, Prod.mk.injEq] at h
    obtain ⟨rfl, rfl⟩ := h
    have CC := Aside0.mk (fun (W : World) (hb : Below w.heap.size w W) => feature_Check.calls _ _ l0_0 _ _ l0_1 7 W (Kd.C_below HR0.out hb) HC0.out (Kd.C_below HR1.out hb) HC1.out (by simp [feature_Check.f, hck]))
    clear hck
    go_enter Tryd.func44, Tryd.ntmps44
    go_wp2_with fail
    refine (CC.out _ BW.out).mono ?_
    rintro e w2 ⟨rfl, hb⟩
    have B2 := Aside0.mk (below_step BW.out hb)
    clear hb
    go_wp2
    go_ret2
    exact ⟨rfl, B2.out⟩
  · have CC := Aside0.mk (fun (W : World) (hb : Below w.heap.size w W) => feature_Check.calls _ _ l0_0 _ _ l0_1 0 W (Kd.C_below HR0.out hb) HC0.out (Kd.C_below HR1.out hb) HC1.out (by simp [feature_Check.f, hck]))
    have GD := Aside0.mk hck
    rw [hck, if_pos rfl] at h
    clear hck
    rcases hw : withinB l0_0 a1 a2 with _ | _
    · rw [hw] at h
      simp only [Bool.false_eq_true, if_false, Prod.mk.injEq] at h
      obtain ⟨rfl, rfl⟩ := h
      have CW := Aside0.mk (fun (W : World) (hb : Below w.heap.size w W) => feature_within.calls _ _ l0_0 _ _ l0_1 a1 a2 false W (Kd.C_below HR0.out hb) HC0.out (Kd.C_below HR1.out hb) HC1.out (by rw [within_eq, hw]))
      clear hw
      go_enter Tryd.func44, Tryd.ntmps44
      go_wp2_with fail
      refine (CC.out _ BW.out).mono ?_
      rintro e w2 ⟨rfl, hb⟩
      have B2 := Aside0.mk (below_step BW.out hb)
      have K2 := Aside0.mk (blk_below KA.out hb)
      have k0 : w2.cell? ⟨w.heap.size, 0, none⟩ = some (.slice A0_0 l0_0.length c0_0) := (blk_cell K2.out 0).trans rfl
      have k1 : w2.cell? ⟨w.heap.size, 1, none⟩ = some (.slice A0_1 l0_1.length c0_1) := (blk_cell K2.out 1).trans rfl
      clear hb
      go_wp2_with fail
      refine (CW.out _ B2.out).mono ?_
      rintro e w3 ⟨rfl, hb⟩
      have B3 := Aside0.mk (below_step B2.out hb)
      clear hb
      go_wp2
      go_ret2
      exact ⟨rfl, B3.out⟩
    · rw [hw, if_pos rfl] at h
      simp only [Prod.mk.injEq] at h
      have HQ := Aside0.mk h
      clear h
      have CW := Aside0.mk (fun (W : World) (hb : Below w.heap.size w W) => feature_within.calls _ _ l0_0 _ _ l0_1 a1 a2 true W (Kd.C_below HR0.out hb) HC0.out (Kd.C_below HR1.out hb) HC1.out (by rw [within_eq, hw]))
      clear hw
      have hF : l0_0.length ≤ 24 := (check_feats GD.out).1
      have NM := Aside0.mk (fun (j : Nat) (hj : j < l0_0.length) => named_size (check_name GD.out j hj).1)
      go_enter Tryd.func44, Tryd.ntmps44
      go_wp2_with fail
      refine (CC.out _ BW.out).mono ?_
      rintro e w2 ⟨rfl, hb⟩
      have B2 := Aside0.mk (below_step BW.out hb)
      have K2 := Aside0.mk (blk_below KA.out hb)
      have k0 : w2.cell? ⟨w.heap.size, 0, none⟩ = some (.slice A0_0 l0_0.length c0_0) := (blk_cell K2.out 0).trans rfl
      have k1 : w2.cell? ⟨w.heap.size, 1, none⟩ = some (.slice A0_1 l0_1.length c0_1) := (blk_cell K2.out 1).trans rfl
      clear hb
      go_wp2_with fail
      refine (CW.out _ B2.out).mono ?_
      rintro e w3 ⟨rfl, hb⟩
      have B3 := Aside0.mk (below_alloc (below_step B2.out hb) (.cells #[.pointer none, .slice none 0 0] 103))
      have S3 := Aside0.mk (below_step B2.out hb).size
      have K3 := Aside0.mk (blk_alloc (blk_below K2.out hb) (.cells #[.pointer none, .slice none 0 0] 103))
      have I3 := Aside0.mk (Lib.IsBuilderF.of (Lib.fresh_isBuilder 103 5 w3))
      clear hb k0 k1
      have k0 : (w3.alloc (.cells #[.pointer none, .slice none 0 0] 103)).cell? ⟨w.heap.size, 0, none⟩ = some (.slice A0_0 l0_0.length c0_0) := (blk_cell K3.out 0).trans rfl
      obtain ⟨B, hB⟩ : ∃ B, w3.heap.size = B := ⟨_, rfl⟩
      rw [hB] at I3 S3
      have Z3 := Aside0.mk (show B ≤ (w3.alloc (.cells #[.pointer none, .slice none 0 0] 103)).heap.size by rw [World.size_alloc]; omega)
      go_wp2
      go_loopw [25] (fun v w' => ∃ i : Nat, i ≤ l0_0.length ∧ v = .int .i64 i ∧ Aside0 (Lib.IsBuilderF 103 5 B B (Lib.byteCells (textL l0_0 a1 a2 i)) w') ∧ Aside0 (B ≤ w'.heap.size) ∧ Aside0 (Below w.heap.size w w')) (fun v _ => l0_0.length - (intOf v).toNat)
      case atStart => exact ⟨0, by omega, rfl, I3, Z3, B3⟩
      case round =>
        clear I3 Z3 B3
        obtain ⟨i, hi, rfl, HI, HZ, HB⟩ := hrel
        rcases Nat.lt_or_ge i l0_0.length with hlt | hge
        · have p0 : 0 ≤ (i : Int) := by omega
          have q0 : (i : Int) < (l0_0.length : Int) := by omega
          obtain ⟨ad, ea, hx⟩ := Kd.at_string HR0.out i p0 q0
          cases ea
          replace hx := (HB.out.cell (World.block_lt_of_cell? w _ hx)).trans hx
          rw [Int.toNat_natCast] at hx
          have hsz := NM.out i hlt
          obtain ⟨x, hxx⟩ : ∃ x, rdOf ByteArray.empty l0_0 (i : Int) = x := ⟨_, rfl⟩
          rw [hxx] at hx hsz
          have HX := Aside0.mk hxx
          clear hxx
          have e1 : (Go.bits .and .u32 (a1 / 2 ^ i) 1 == 1) = bitB a1 (i : Int) := by unfold bitB; rw [← shr_small (k := .u32) (x := a1) (y := (i : Int)) rfl (show (i : Int) ≤ 32 by omega)]; rfl
          have e2 : (Go.bits .and .u32 (a2 / 2 ^ i) 1 == 1) = bitB a2 (i : Int) := by unfold bitB; rw [← shr_small (k := .u32) (x := a2) (y := (i : Int)) rfl (show (i : Int) ≤ 32 by omega)]; rfl
          have LL := Aside0.mk (textL_len l0_0 a1 a2 i (fun j hj => NM.out j (by omega)))
          have CS := Aside0.mk (fun (c : UInt8) (hc : c = 43 ∨ c = 45) => write_string B B (textL l0_0 a1 a2 i) ((⟨#[c]⟩ : ByteArray) ++ x) wr HI.out (by have := LL.out; rw [ByteArray.size_append]; have : (⟨#[c]⟩ : ByteArray).size = 1 := rfl; omega) HZ.out)
          have tl : ∀ c : UInt8, ((⟨#[c]⟩ : ByteArray) ++ x).data.toList = c :: x.data.toList := fun c => by simp [ByteArray.data_append]
          simp only [tl] at CS
          clear tl
          rcases hb1 : bitB a1 (i : Int) with _ | _
          · rw [hb1] at e1
            rcases hb2 : bitB a2 (i : Int) with _ | _
            · rw [hb2] at e2
              have H1 := Aside0.mk hb1
              have H2 := Aside0.mk hb2
              clear hb1 hb2
              go_wp2
              go_roundw
              case rel =>
                refine ⟨i + 1, by omega, by go_num, ⟨?_⟩, HZ, HB⟩
                have e : textL l0_0 a1 a2 (i + 1) = textL l0_0 a1 a2 i := by
                  simp only [textL, signL]
                  rw [H1.out, H2.out]
                  simp
                rw [e]
                exact HI.out
              case measure => simp [intOf]; omega
            · rw [hb2] at e2
              have H1 := Aside0.mk hb1
              have H2 := Aside0.mk hb2
              clear hb1 hb2
              go_wp2_with (go_at_call 82; refine (CS.out 45 (by decide)).mono ?_; rintro e w4 ⟨rfl, hi4, hb4⟩)
              have J4 := Aside0.mk hi4
              have B4 := Aside0.mk hb4
              clear hi4 hb4
              go_roundw
              case rel =>
                refine ⟨i + 1, by omega, by go_num, ⟨?_⟩, ⟨?_⟩, ⟨below_both HB.out S3.out B4.out⟩⟩
                · have e : textL l0_0 a1 a2 (i + 1) = textL l0_0 a1 a2 i ++ (45 :: x.data.toList) := by
                    simp only [textL, signL]
                    rw [HX.out, H1.out, H2.out]
                    simp
                  rw [e]
                  exact J4.out
                · have := HZ.out
                  have := B4.out.size
                  omega
              case measure => simp [intOf]; omega
          · rw [hb1] at e1
            have H1 := Aside0.mk hb1
            clear hb1 e2
            go_wp2_with (go_at_call 82; refine (CS.out 43 (by decide)).mono ?_; rintro e w4 ⟨rfl, hi4, hb4⟩)
            have J4 := Aside0.mk hi4
            have B4 := Aside0.mk hb4
            clear hi4 hb4
            go_roundw
            case rel =>
              refine ⟨i + 1, by omega, by go_num, ⟨?_⟩, ⟨?_⟩, ⟨below_both HB.out S3.out B4.out⟩⟩
              · have e : textL l0_0 a1 a2 (i + 1) = textL l0_0 a1 a2 i ++ (43 :: x.data.toList) := by
                  simp only [textL, signL]
                  rw [HX.out, H1.out]
                  simp
                rw [e]
                exact J4.out
              · have := HZ.out
                have := B4.out.size
                omega
            case measure => simp [intOf]; omega
        · obtain rfl : i = l0_0.length := by omega
          go_wp2_with (go_at_call 83; refine (string_any B B _ _ HI.out HZ.out).mono ?_; rintro e w4 ⟨rfl, hb4⟩)
          go_ret2
          have hq := HQ.out
          exact ⟨by rw [hq.1, ← hq.2]; rfl, below_both HB.out S3.out hb4⟩
end Go.Proofs.YtjnikjnkmcbjfaaDoor.X
