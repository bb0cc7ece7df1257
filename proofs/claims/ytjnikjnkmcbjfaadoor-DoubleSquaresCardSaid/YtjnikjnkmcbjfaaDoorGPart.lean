/- word.Part, walked: the letters from one to another one. -/
import Derived.Test.YtjnikjnkmcbjfaaDoorGLetters
namespace Go.Proofs.YtjnikjnkmcbjfaaDoor.X
open Go.RowKit Go.Proofs.YtjnikjnkmcbjfaaDoorW.PrintWords Go.Proofs.YtjnikjnkmcbjfaaDoorW.PrintLast Go.Proofs.YtjnikjnkmcbjfaaDoorW.PrintMore
theorem run_slice3 {P : Program} (W : World) (t e : TypeId) (A : Option Addr) (n c : Nat) (a b : Int) (h0 : 0 ≤ a) (h1 : a ≤ b) (h2 : b ≤ c) (ht : P.underlying t = some (.slice e)) {i : TypeInfo} (hi : P.info? e = some i) (hsz : i.size = 1) :
    (Instr.slice t (.slice A n c) (some (.int .i64 a)) (some (.int .i64 b)) (some (.int .i64 b))).run P W = .ok (.slice (if b.toNat = a.toNat then A else A.map (·.add a.toNat)) (b.toNat - a.toNat) (b.toNat - a.toNat)) W := by
  have hel : P.elem t = e := by simp [Program.elem, ht]
  have hu : P.underlying t = some (.slice (P.elem t)) := by rw [hel]; exact ht
  have r1 : (Instr.sliceBound (.int .i64 b) b.toNat .slice3B).run P W = .ok b.toNat W := by first | exact run_sliceBound _ _ _ _ (by omega) (by omega) | exact run_sliceBound _ _ _ _ _ (by omega) (by omega)
  have r2 : (Instr.sliceBound (.int .i64 a) b.toNat .slice3C).run P W = .ok a.toNat W := by first | exact run_sliceBound _ _ _ _ (by omega) (by omega) | exact run_sliceBound _ _ _ _ _ (by omega) (by omega)
  simp [Instr.slice, run_underlying hu, Instr.sliceBounds, run_sliceBound, *, (by omega : 0 ≤ b), sizeOf, typeInfo, Result.andThen]
/-- The letters from one to another one, as a text. -/
def word_Part.f (l0_0 : List ByteArray) (l0_1 : List S53) (a1 : ByteArray) (a2 : Int) (a3 : Int) : Option (ByteArray × Int) :=
  (word_Letters.f l0_0 l0_1 a1).bind fun t => if t.2 = 0 then (if 0 ≤ a2 ∧ a2 ≤ a3 ∧ a3 ≤ (t.1.length : Int) then some (runesBytes ((t.1.take a3.toNat).drop a2.toNat), 0) else some ((⟨#[]⟩ : ByteArray), 2)) else some ((⟨#[]⟩ : ByteArray), t.2)
set_option maxHeartbeats 1000000 in
set_option maxRecDepth 100000 in
theorem word_Part.calls (A0_0 : Option Addr) (c0_0 : Nat) (l0_0 : List ByteArray) (A0_1 : Option Addr) (c0_1 : Nat) (l0_1 : List S53) (a1 : ByteArray) (a2 : Int) (a3 : Int) (r1 : ByteArray) (r2 : Int) (w : World) (hT0 : Tabs w) (hr0_0 : Kd.C Kd.string w A0_0 l0_0.length l0_0) (hc0_0 : l0_0.length ≤ c0_0) (hr0_1 : Kd.C k53 w A0_1 l0_1.length l0_1) (hc0_1 : l0_1.length ≤ c0_1) (h : word_Part.f l0_0 l0_1 a1 a2 a3 = some (r1, r2)) :
    Calls Tryd.prog 24 #[.agg #[.slice A0_0 l0_0.length c0_0, .slice A0_1 l0_1.length c0_1], .string a1, .int .i64 a2, .int .i64 a3] w fun e w' => e = .returned (.tuple #[.string r1, .int .i64 r2]) ∧ Below w.heap.size w w' := by
  have HR0 := Aside0.mk hr0_0
  have HC0 := Aside0.mk hc0_0
  have HR1 := Aside0.mk hr0_1
  have HC1 := Aside0.mk hc0_1
  have HT := Aside0.mk hT0
  have BW := Aside0.mk (below_alloc (Below.refl _ w) (.cells #[.slice A0_0 l0_0.length c0_0, .slice A0_1 l0_1.length c0_1] 25))
  clear hr0_0 hc0_0 hr0_1 hc0_1 hT0
  obtain ⟨⟨l, e⟩, hL, h⟩ := Option.bind_eq_some_iff.1 h
  have hL2 := Aside0.mk hL
  clear hL
  simp only at h
  have call := fun (W : World) (hb : Below w.heap.size w W) => word_Letters.calls _ _ l0_0 _ _ l0_1 a1 l e W (HT.out.below hb) (Kd.C_below HR0.out hb) HC0.out (Kd.C_below HR1.out hb) HC1.out hL2.out
  have CA := Aside0.mk call
  clear call
  by_cases he : e = 0
  · subst he
    rw [if_pos rfl] at h
    by_cases hin : 0 ≤ a2 ∧ a2 ≤ a3 ∧ a3 ≤ (l.length : Int)
    · rw [if_pos hin] at h
      simp only [Option.some.injEq, Prod.mk.injEq] at h
      obtain ⟨rfl, rfl⟩ := h
      have b0 : decide (a2 < 0) = false := decide_eq_false (by omega)
      have b1 : decide (a3 < a2) = false := decide_eq_false (by omega)
      have b2 : decide ((l.length : Int) < a3) = false := decide_eq_false (by omega)
      go_enter Tryd.func24, Tryd.ntmps24
      go_wp2_with fail
      refine (CA.out _ BW.out).mono ?_
      rintro e w2 ⟨v, rfl, hv, hb⟩
      have hb2 := below_step BW.out hb
      obtain ⟨A, c, rfl, hlc, hC⟩ := Kd.R_reads hv
      have hrd := ((Kd.reads_of_C (enc := Value.int .i32) (d := (0 : Int)) (h1 := fun _ => rfl) hC).take_ a3.toNat (by omega)).drop_ (c := a3.toNat) a2.toNat (by omega) (Nat.le_refl _)
      obtain ⟨i0, hi, hz⟩ := Option.map_eq_some_iff.1 info21
      simp only [Prod.mk.injEq] at hz
      have hsz := hz.2.1
      have hsl := fun W => run_slice3 (P := Tryd.prog) W 37 21 A l.length c a2 a3 hin.1 hin.2.1 (by omega) Tryd.underlying37 hi hsz
      obtain ⟨A', hA'⟩ : ∃ A', A' = (if a3.toNat = a2.toNat then A else A.map (·.add a2.toNat)) := ⟨_, rfl⟩
      rw [← hA'] at hrd
      simp only [← hA'] at hsl
      have hcv := runes_of_reads (c := a3.toNat - a2.toNat) (dst := 9) Tryd.underlying37 Tryd.underlying21 Tryd.underlying9 hrd
      have B2 := Aside0.mk hb2
      clear hv hb hb2 hC hrd hA'
      go_wp2
      go_ret2
      exact ⟨rfl, B2.out⟩
    · rw [if_neg hin] at h
      simp only [Option.some.injEq, Prod.mk.injEq] at h
      obtain ⟨rfl, rfl⟩ := h
      by_cases h0 : a2 < 0
      · have b0 : decide (a2 < 0) = true := decide_eq_true h0
        go_enter Tryd.func24, Tryd.ntmps24
        go_wp2_with fail
        refine (CA.out _ BW.out).mono ?_
        rintro e w2 ⟨v, rfl, hv, hb⟩
        have hb2 := below_step BW.out hb
        obtain ⟨A, c, rfl, hlc, hC⟩ := Kd.R_reads hv
        have B2 := Aside0.mk hb2
        clear hv hb hb2 hC
        go_wp2
        go_ret2
        exact ⟨rfl, B2.out⟩
      · have b0 : decide (a2 < 0) = false := decide_eq_false h0
        by_cases h1 : a3 < a2
        · have b1 : decide (a3 < a2) = true := decide_eq_true h1
          go_enter Tryd.func24, Tryd.ntmps24
          go_wp2_with fail
          refine (CA.out _ BW.out).mono ?_
          rintro e w2 ⟨v, rfl, hv, hb⟩
          have hb2 := below_step BW.out hb
          obtain ⟨A, c, rfl, hlc, hC⟩ := Kd.R_reads hv
          have B2 := Aside0.mk hb2
          clear hv hb hb2 hC
          go_wp2
          go_ret2
          exact ⟨rfl, B2.out⟩
        · have b1 : decide (a3 < a2) = false := decide_eq_false h1
          have b2 : decide ((l.length : Int) < a3) = true := decide_eq_true (by omega)
          go_enter Tryd.func24, Tryd.ntmps24
          go_wp2_with fail
          refine (CA.out _ BW.out).mono ?_
          rintro e w2 ⟨v, rfl, hv, hb⟩
          have hb2 := below_step BW.out hb
          obtain ⟨A, c, rfl, hlc, hC⟩ := Kd.R_reads hv
          have B2 := Aside0.mk hb2
          clear hv hb hb2 hC
          go_wp2
          go_ret2
          exact ⟨rfl, B2.out⟩
  · rw [if_neg he] at h
    simp only [Option.some.injEq, Prod.mk.injEq] at h
    obtain ⟨rfl, rfl⟩ := h
    have e0 : (e != 0) = true := bne_iff_ne.2 he
    go_enter Tryd.func24, Tryd.ntmps24
    go_wp2_with fail
    refine (CA.out _ BW.out).mono ?_
    rintro e w2 ⟨v, rfl, hv, hb⟩
    have hb2 := below_step BW.out hb
    obtain ⟨A, c, rfl, hlc, hC⟩ := Kd.R_reads hv
    have B2 := Aside0.mk hb2
    clear hv hb hb2 hC
    go_wp2
    go_ret2
    exact ⟨rfl, B2.out⟩
end Go.Proofs.YtjnikjnkmcbjfaaDoor.X
