/- word.Letters, walked: a word's letters. -/
import Derived.Test.YtjnikjnkmcbjfabDoorGPieces
import Derived.Test.YtjnikjnkmcbjfabDoorGCheck
import Derived.Test.YtjnikjnkmcbjfabDoorT1
import Derived.StringKeys
namespace Go.Proofs.YtjnikjnkmcbjfabDoor.X
open Go.RowKit Go.Maps Go.WideMaps Go.Proofs.YtjnikjnkmcbjfabDoorW.PrintWords Go.Proofs.YtjnikjnkmcbjfabDoorW.PrintLast Go.Proofs.YtjnikjnkmcbjfabDoorW.PrintMore
/-- A set of runes: the keys of a map. -/
def KeysR (g : Lit → Option (DataW Unit)) (l : List Int) : Prop := ∀ r : Int, (g (.int .i32 r)).isSome = decide (r ∈ l)
open Classical in
theorem KeysR.put {g : Lit → Option (DataW Unit)} {L : List S91} {i : Nat} (h : KeysR g ((L.take i).map (·.f0))) (hi : i < L.length) (d : DataW Unit) :
    KeysR (fun x => if x = .int .i32 (rd_T91 L i).f0 then some d else g x) ((L.take (i + 1)).map (·.f0)) := by
  intro r
  have e : L.take (i + 1) = L.take i ++ [rd_T91 L i] := by
    rw [List.take_succ_eq_append_getElem hi]
    simp [rd_T91, hi]
  rw [e]
  simp only [List.map_append, List.mem_append, List.map_cons, List.map_nil, List.mem_singleton, Lit.int.injEq, true_and]
  by_cases hs : r = (rd_T91 L i).f0
  · simp [hs]
  · simp only [hs, if_false, or_false]
    exact h r
theorem letters_wf {F : List ByteArray} {L : List S91} (h : checkB F L = true) (i : Nat) (hi : i < L.length) : (Lit.int .i32 (rd_T91 L i).f0).wf = true := by
  simp only [checkB, Bool.and_eq_true] at h
  have h2 := h.2
  simp only [lettersB, List.all_eq_true, List.mem_range] at h2
  have h3 := h2 i hi
  simp only [Bool.and_eq_true] at h3
  exact letter_wf h3.1.1
theorem check_len {F : List ByteArray} {L : List S91} (h : checkB F L = true) : L.length ≤ 128 := by
  simp only [checkB, Bool.and_eq_true, decide_eq_true_eq] at h
  exact h.1.1.2
theorem run_makeMap_hint {P : Program} {k e : TypeId} (t : TypeId) (ht : P.underlying t = some (.map k e)) (n : Int) (w : World) : (Instr.makeMap t (some (.int .i64 n))).run P w = .ok (.map (some w.heap.size)) (w.alloc (.map #[] 0)) := by
  simp [Instr.makeMap, run_underlying ht, asInt, asIntOf]
set_option maxHeartbeats 2000000 in
set_option maxRecDepth 100000 in
theorem ranks_ok (A0_0 : Option Addr) (c0_0 : Nat) (l0_0 : List ByteArray) (A0_1 : Option Addr) (c0_1 : Nat) (l0_1 : List S91) (w : World) (hr0_0 : Kd.C Kd.string w A0_0 l0_0.length l0_0) (hc0_0 : l0_0.length ≤ c0_0) (hr0_1 : Kd.C k91 w A0_1 l0_1.length l0_1) (hc0_1 : l0_1.length ≤ c0_1) (h : checkB l0_0 l0_1 = true) :
    Calls Tryd.prog 80 #[.agg #[.slice A0_0 l0_0.length c0_0, .slice A0_1 l0_1.length c0_1]] w fun e w' => ∃ (b : Nat) (g : Lit → Option (DataW Unit)), e = .returned (.tuple #[.map (some b), .int .i64 0]) ∧ MapFn Tryd.prog 21 (plainElem Tryd.prog 3) w' b l0_1.length g ∧ KeysR g (l0_1.map (·.f0)) ∧ Below w.heap.size w w' := by
  have HR0 := Aside0.mk hr0_0
  have HC0 := Aside0.mk hc0_0
  have HR1 := Aside0.mk hr0_1
  have HC1 := Aside0.mk hc0_1
  have HQ := Aside0.mk h
  have BW := Aside0.mk (below_alloc (Below.refl _ w) (.cells #[.slice A0_0 l0_0.length c0_0, .slice A0_1 l0_1.length c0_1] 25))
  have KA := Aside0.mk (blk_new w (.cells #[.slice A0_0 l0_0.length c0_0, .slice A0_1 l0_1.length c0_1] 25))
  have HC := Aside0.mk (show feature_Check.f l0_0 l0_1 = some 0 by simp [feature_Check.f, h])
  have hlen := check_len h
  clear hr0_0 hc0_0 hr0_1 hc0_1 h
  have hmm := fun (n : Int) (W : World) => run_makeMap_hint (P := Tryd.prog) (k := 21) (e := 3) 113 Tryd.underlying113 n W
  go_enter Tryd.func80, Tryd.ntmps80
  go_wp2_with fail
  refine (feature_Check.calls _ _ l0_0 _ _ l0_1 0 _ (Kd.C_below HR0.out BW.out) HC0.out (Kd.C_below HR1.out BW.out) HC1.out HC.out).mono ?_
  rintro e w2 ⟨rfl, hb⟩
  have hk2 := blk_below KA.out hb
  have a0 : w2.cell? ⟨w.heap.size, 0, none⟩ = some (.slice A0_0 l0_0.length c0_0) := (blk_cell hk2 0).trans rfl
  have a1 : w2.cell? ⟨w.heap.size, 1, none⟩ = some (.slice A0_1 l0_1.length c0_1) := (blk_cell hk2 1).trans rfl
  have a2 : (w2.alloc (.map #[] 0)).cell? ⟨w.heap.size, 1, none⟩ = some (.slice A0_1 l0_1.length c0_1) := (blk_cell (blk_alloc hk2 _) 1).trans rfl
  have hb2 := below_step BW.out hb
  have K2 := Aside0.mk hk2
  have B2 := Aside0.mk (hb2.alloc hb2.size (.map #[] 0))
  have M2 := Aside0.mk (MapFn.made Tryd.prog 21 (plainElem Tryd.prog 3) w2)
  have S2 := Aside0.mk (show KeysR (fun _ => none) ((l0_1.take 0).map (·.f0)) from fun s => by simp)
  have Z2 := Aside0.mk (show w.heap.size ≤ w2.heap.size from hb2.size)
  have N2 := Aside0.mk (show w.heap.size ≠ w2.heap.size from Nat.ne_of_lt (blk_lt hk2))
  clear hk2 hb hb2
  go_wp2
  go_loopw [20] (fun v w' => ∃ i : Nat, i ≤ l0_1.length ∧ v = .int .i64 i ∧ Aside0 (∃ g, MapFn Tryd.prog 21 (plainElem Tryd.prog 3) w' w2.heap.size i g ∧ KeysR g ((l0_1.take i).map (·.f0))) ∧ Aside0 (Below w.heap.size w w')) (fun v _ => l0_1.length - (intOf v).toNat)
  case atStart => exact ⟨0, by omega, rfl, ⟨_, M2.out, S2.out⟩, B2⟩
  case round =>
    clear B2 M2 S2 a0 a1 a2
    obtain ⟨i, hi, rfl, HM, HB⟩ := hrel
    rcases Nat.lt_or_ge i l0_1.length with hlt | hge
    · have p0 : 0 ≤ (i : Int) := by omega
      have q0 : (i : Int) < (l0_1.length : Int) := by omega
      obtain ⟨ad, ea, hx0, hx1, hx2⟩ := at_T91 HR1.out i p0 q0
      cases ea
      replace hx0 := (HB.out.cell (World.block_lt_of_cell? w _ hx0)).trans hx0
      replace hx1 := (HB.out.cell (World.block_lt_of_cell? w _ hx1)).trans hx1
      replace hx2 := (HB.out.cell (World.block_lt_of_cell? w _ hx2)).trans hx2
      rw [Int.toNat_natCast] at hx0 hx1 hx2
      have WF := Aside0.mk (letters_wf HQ.out i hlt)
      obtain ⟨x0, hr0⟩ : ∃ x0, (rd_T91 l0_1 i).f0 = x0 := ⟨_, rfl⟩
      obtain ⟨x1, hr1⟩ : ∃ x1, (rd_T91 l0_1 i).f1 = x1 := ⟨_, rfl⟩
      obtain ⟨x2, hr2⟩ : ∃ x2, (rd_T91 l0_1 i).f2 = x2 := ⟨_, rfl⟩
      rw [hr0] at hx0 WF
      rw [hr1] at hx1
      rw [hr2] at hx2
      have R0 := Aside0.mk hr0
      clear hr0 hr1 hr2
      obtain ⟨g, hm, hs⟩ := HM.out
      have hm3 := hm.alloc (.cells #[.int .i32 x0, .int .u32 x1, .int .u32 x2] 91)
      have hkey := keyOf_int_mk Tryd.underlying21 WF.out
      obtain ⟨w4, hup, hm4, hg4⟩ := hm3.put (int_keyed Tryd.underlying21) Tryd.underlying113 (by unfold maxLen; omega) hkey (plainElem_int Tryd.underlying3 (a := (i : Int)) (WalkArith.wf_i64 (by omega)))
      have M4 := Aside0.mk hm4
      have S4 := Aside0.mk hs
      have B4 := Aside0.mk ((HB.out.alloc HB.out.size (.cells #[.int .i32 x0, .int .u32 x1, .int .u32 x2] 91)).grown hg4 (by have := HB.out.size; rw [World.size_alloc]; omega) (fun k e => by cases e; exact Z2.out))
      clear hm hs hm3 hkey hm4 hg4
      go_wp2
      go_roundw
      case rel =>
        refine ⟨i + 1, by omega, by go_num, ⟨_, M4.out, ?_⟩, B4⟩
        rw [← R0.out]
        exact S4.out.put hlt _
      case measure => simp [intOf]; omega
    · obtain rfl : i = l0_1.length := by omega
      obtain ⟨g, hm, hs⟩ := HM.out
      have M4 := Aside0.mk hm
      have S4 := Aside0.mk hs
      clear hm hs
      go_wp2
      go_ret2
      exact ⟨_, _, rfl, M4.out, by simpa using S4.out, HB.out⟩
/-- What is read of pieces behind what has been read. -/
def readL (R : List Int) : List Pc → List Int → List Int × Int
  | [], out => (out, 0)
  | p :: ps, out => if p.b = true then ([], 6) else if p.r ∈ R then (if out.length = 64 then ([], 4) else readL R ps (out ++ [p.r])) else ([], 5)
/-- A text's beginning. -/
def cutS (s : ByteArray) : ByteArray := if 65536 < s.size then s.extract 0 65536 else s
theorem cutS_size (s : ByteArray) : (cutS s).size ≤ 65536 := by
  unfold cutS
  split
  · rw [ByteArray.size_extract]; omega
  · omega
theorem piecesOf_wf (s : ByteArray) : ∀ (k pos : Nat), ∀ p ∈ piecesOf s k pos, 0 ≤ p.r ∧ p.r ≤ 2147483647
  | 0, _, p, h => by simp [piecesOf] at h
  | k + 1, pos, p, h => by
    unfold piecesOf at h
    split at h
    · rcases List.mem_cons.1 h with rfl | h
      · have := decode_le s pos
        simp only [pieceAt]
        omega
      · exact piecesOf_wf s k _ p h
    · simp at h
theorem piecesOf_len (s : ByteArray) : ∀ (k pos : Nat), (piecesOf s k pos).length ≤ k
  | 0, _ => by simp [piecesOf]
  | k + 1, pos => by
    unfold piecesOf
    split
    · simp only [List.length_cons]
      have := piecesOf_len s k (pos + (Utf8.decode s pos).2)
      omega
    · simp
theorem at_Pc {w : World} {A : Option Addr} {n : Nat} {xs : List Pc} (h : Kd.C kPc w A n xs) (i : Nat) (hi : i < xs.length) (hn : n = xs.length) : ∃ ad, A = some ad ∧ w.cell? (ad.add (i * 4)) = some (.int .i32 (xs[i]).r) ∧ w.cell? ⟨(ad.add (i * 4)).block, (ad.add (i * 4)).off + 1, none⟩ = some (.int .i64 (xs[i]).a) ∧ w.cell? ⟨(ad.add (i * 4)).block, (ad.add (i * 4)).off + 2, none⟩ = some (.int .i64 (xs[i]).l) ∧ w.cell? ⟨(ad.add (i * 4)).block, (ad.add (i * 4)).off + 3, none⟩ = some (.bool (xs[i]).b) := by
  obtain ⟨ad, c, e, _, hK, hc0⟩ := Kd.C_get h (⟨0, 0, 0, false⟩ : Pc) (i : Int) (by omega) (by omega)
  rw [Int.toNat_natCast] at hc0 hK
  have hg : xs.getD i (⟨0, 0, 0, false⟩ : Pc) = xs[i] := by simp [List.getD_eq_getElem?_getD, hi]
  rw [hg] at hK
  have hc : ∀ j u, c[j]? = some u → w.cell? (ad.add (i * 4 + j)) = some u := hc0
  obtain rfl := kPc_open hK
  exact ⟨ad, e, hc 0 _ rfl, by rw [← add_field _ _ 1 (by omega)]; exact hc 1 _ rfl, by rw [← add_field _ _ 2 (by omega)]; exact hc 2 _ rfl, by rw [← add_field _ _ 3 (by omega)]; exact hc 3 _ rfl⟩
set_option maxHeartbeats 4000000 in
set_option maxRecDepth 100000 in
theorem read_of (b n : Nat) (g : Lit → Option (DataW Unit)) (R : List Int) (s : ByteArray) (r1 : List Int) (r2 : Int) (w : World) (hm : MapFn Tryd.prog 21 (plainElem Tryd.prog 3) w b n g) (hg : KeysR g R) (hT : Tabs w) (h : readL R (pieces (cutS s)) [] = (r1, r2)) :
    Calls Tryd.prog 81 #[.map (some b), .string s] w fun e w' => ∃ v0_ : Value, e = .returned (.tuple #[v0_, .int .i64 r2]) ∧ Kd.R (Kd.int .i32) 21 w' w.heap.size (fun _ => True) v0_ r1 ∧ Below w.heap.size w w' := by
  have HM := Aside0.mk hm
  have HG := Aside0.mk hg
  have HQ := Aside0.mk h
  have HP := Aside0.mk (pieces_of (cutS s) w (cutS_size s) hT)
  have HW := Aside0.mk (piecesOf_wf (cutS s) (cutS s).size 0)
  have HL := Aside0.mk (piecesOf_len (cutS s) (cutS s).size 0)
  have HS := Aside0.mk (cutS_size s)
  clear hm hg h hT
  change Aside0 (∀ p ∈ pieces (cutS s), _) at HW
  change Aside0 ((pieces (cutS s)).length ≤ _) at HL
  generalize hpc : pieces (cutS s) = pcs at HQ HP HW HL
  rcases Nat.lt_or_ge 65536 s.size with hbig | hbig
  · have b0 : decide (65536 < (s.size : Int)) = true := decide_eq_true (by omega)
    have b1 : decide (65536 < s.size) = true := decide_eq_true (by omega)
    have e1 : cutS s = s.extract 0 65536 := by unfold cutS; rw [if_pos hbig]
    rw [e1] at HP
    go_enter Tryd.func81, Tryd.ntmps81
    go_wp2_with fail
    refine HP.out.mono ?_
    rintro e w2 ⟨vp, rfl, hvp, hb⟩
    obtain ⟨A, c, rfl, hlc, -⟩ := Kd.R_reads hvp
    have V2 := Aside0.mk hvp
    have B2 := Aside0.mk hb
    clear hvp hb HP
    go_wp2
    go_loopw [8, 28] (fun v8 v28 w' => ∃ (i : Nat) (out : List Int), i ≤ pcs.length ∧ v28 = .int .i64 i ∧ Aside0 (readL R (pcs.drop i) out = (r1, r2)) ∧ Aside0 (Kd.R (Kd.int .i32) 21 w' w.heap.size (fun _ => True) v8 out) ∧ Aside0 (kPc.R 134 w' w.heap.size (fun _ => True) (.slice A pcs.length c) pcs) ∧ Aside0 (out.length ≤ i) ∧ Aside0 (Below w.heap.size w w')) (fun _ v28 _ => pcs.length - (intOf v28).toNat)
    case atStart => exact ⟨0, [], by omega, rfl, ⟨by simpa using HQ.out⟩, ⟨Kd.R_nil _ _ _ _ _⟩, V2, ⟨Nat.le_refl _⟩, B2⟩
    case round =>
      clear V2 B2 HQ
      obtain ⟨i, out, hi, rfl, HQ, HO, HV, HN, HB⟩ := hrel
      obtain ⟨A8, c8, rfl, -, -⟩ := Kd.R_reads HO.out
      rcases Nat.lt_or_ge i pcs.length with hlt | hge
      · obtain ⟨_, _, he_, -, hC⟩ := Kd.R_reads HV.out
        cases he_
        obtain ⟨ad, ea, hx0, hx1, hx2, hx3⟩ := at_Pc hC i hlt rfl
        cases ea
        have hq := HQ.out
        rw [List.drop_eq_getElem_cons hlt] at hq
        simp only [readL] at hq
        have WF := Aside0.mk (HW.out _ (List.getElem_mem hlt))
        obtain ⟨x0, hr0⟩ : ∃ x0, (pcs[i]).r = x0 := ⟨_, rfl⟩
        obtain ⟨x1, hr1⟩ : ∃ x1, (pcs[i]).a = x1 := ⟨_, rfl⟩
        obtain ⟨x2, hr2⟩ : ∃ x2, (pcs[i]).l = x2 := ⟨_, rfl⟩
        obtain ⟨x3, hr3⟩ : ∃ x3, (pcs[i]).b = x3 := ⟨_, rfl⟩
        rw [hr0] at hx0 hq WF
        rw [hr1] at hx1
        rw [hr2] at hx2
        rw [hr3] at hx3 hq
        clear hr0 hr1 hr2 hr3 hC HQ
        have BN := Aside0.mk (HB.out.alloc HB.out.size (.cells #[.int .i32 x0, .int .i64 x1, .int .i64 x2, .bool x3] 134))
        have ON := Aside0.mk (Kd.R_alloc HO.out (.cells #[.int .i32 x0, .int .i64 x1, .int .i64 x2, .bool x3] 134))
        have VN := Aside0.mk (Kd.R_alloc HV.out (.cells #[.int .i32 x0, .int .i64 x1, .int .i64 x2, .bool x3] 134))
        rcases x3 with _ | _
        · rw [if_neg (by decide)] at hq
          have hm2 := (HM.out.below HB.out).alloc (.cells #[.int .i32 x0, .int .i64 x1, .int .i64 x2, .bool false] 134)
          have hkey := keyOf_int_mk Tryd.underlying21 (WalkArith.wf_i32 (n := x0) (by have := WF.out; omega))
          obtain ⟨vl, ps, hlk, hvl⟩ := hm2.look_ok (z := .int .i64 0) (int_keyed Tryd.underlying21) Tryd.underlying113 (by kernel_rfl) (plainElem_int Tryd.underlying3 (by decide)) hkey
          obtain ⟨xl, rfl, -, -⟩ := plainElem_int_inv Tryd.underlying3 hvl
          rw [HG.out] at hlk
          clear hm2 hkey hvl
          by_cases hin : x0 ∈ R
          · rw [if_pos hin] at hq
            rw [decide_eq_true hin] at hlk
            by_cases h64 : out.length = 64
            · rw [if_pos h64] at hq
              have b2 : ((out.length : Int) == 64) = true := beq_iff_eq.2 (by omega)
              simp only [Prod.mk.injEq] at hq
              obtain ⟨rfl, rfl⟩ := hq
              go_wp2
              go_ret2
              exact ⟨_, rfl, Kd.R_nil _ _ _ _ _, BN.out⟩
            · rw [if_neg h64] at hq
              have b2 : ((out.length : Int) == 64) = false := beq_eq_false_iff_ne.2 (by omega)
              have hB1 : pcs.length ≤ 65536 := by have := HL.out; have := HS.out; omega
              have Q2 := Aside0.mk hq
              clear hq
              go_wp2_with (first | ((with_reducible refine gate_builtin (b := .append) (xs := #[.tmp 46, .tmp 49]) rfl ?_); at_builtin; refine Kd.R_append (Kd.int .i32) (w0 := w) w.heap.size rfl (.tmp 46) (.tmp 49) 60 21 (.int .i32 0) 4 rfl Tryd.underlying60 info21 rfl (by decide) (by omega) (.slice A8 out.length c8) out x0 [.int .i32 x0] (fun _ => True) (fun _ => False) rfl (by first | rfl | (rw [World.size_alloc]; rfl)) ?aP (fun _ hk => hk.elim) ?aF ?aO ?aB ?aS ?aL ?_; (case aP => exact rfl); (case aB => exact BN.out); (case aF => exact (fun _ _ => trivial)); (case aO => exact ON.out); (case aS => exact BN.out.size); (case aL => have := HN.out; have := HL.out; have := HS.out; omega); intro v1 w1 ho hb hg hat; have VX := Aside0.mk (Kd.R_over' VN.out (Kd.R_typed ON.out) (by decide) hg); have OX := Aside0.mk ho; have BX := Aside0.mk hb; clear ho hb hg hat))
              go_roundw
              case rel =>
                refine ⟨i + 1, out ++ [x0], by omega, by go_num, Q2, OX, VX, ⟨?_⟩, BX⟩
                have := HN.out
                rw [List.length_append]
                simp only [List.length_cons, List.length_nil]
                omega
              case measure => simp [intOf]; omega
          · rw [if_neg hin] at hq
            rw [decide_eq_false hin] at hlk
            simp only [Prod.mk.injEq] at hq
            obtain ⟨rfl, rfl⟩ := hq
            go_wp2
            go_ret2
            exact ⟨_, rfl, Kd.R_nil _ _ _ _ _, BN.out⟩
        · rw [if_pos rfl] at hq
          simp only [Prod.mk.injEq] at hq
          obtain ⟨rfl, rfl⟩ := hq
          go_wp2
          go_ret2
          exact ⟨_, rfl, Kd.R_nil _ _ _ _ _, BN.out⟩
      · obtain rfl : i = pcs.length := by omega
        have hq := HQ.out
        rw [List.drop_length] at hq
        simp only [readL, Prod.mk.injEq] at hq
        obtain ⟨rfl, rfl⟩ := hq
        go_wp2
        go_ret2
        exact ⟨_, rfl, HO.out, HB.out⟩
  · have b0 : decide (65536 < (s.size : Int)) = false := decide_eq_false (by omega)
    have b1 : decide (65536 < s.size) = false := decide_eq_false (by omega)
    have e1 : cutS s = s := by unfold cutS; rw [if_neg (by omega)]
    rw [e1] at HP
    go_enter Tryd.func81, Tryd.ntmps81
    go_wp2_with fail
    refine HP.out.mono ?_
    rintro e w2 ⟨vp, rfl, hvp, hb⟩
    obtain ⟨A, c, rfl, hlc, -⟩ := Kd.R_reads hvp
    have V2 := Aside0.mk hvp
    have B2 := Aside0.mk hb
    clear hvp hb HP
    go_wp2
    go_loopw [8, 28] (fun v8 v28 w' => ∃ (i : Nat) (out : List Int), i ≤ pcs.length ∧ v28 = .int .i64 i ∧ Aside0 (readL R (pcs.drop i) out = (r1, r2)) ∧ Aside0 (Kd.R (Kd.int .i32) 21 w' w.heap.size (fun _ => True) v8 out) ∧ Aside0 (kPc.R 134 w' w.heap.size (fun _ => True) (.slice A pcs.length c) pcs) ∧ Aside0 (out.length ≤ i) ∧ Aside0 (Below w.heap.size w w')) (fun _ v28 _ => pcs.length - (intOf v28).toNat)
    case atStart => exact ⟨0, [], by omega, rfl, ⟨by simpa using HQ.out⟩, ⟨Kd.R_nil _ _ _ _ _⟩, V2, ⟨Nat.le_refl _⟩, B2⟩
    case round =>
      clear V2 B2 HQ
      obtain ⟨i, out, hi, rfl, HQ, HO, HV, HN, HB⟩ := hrel
      obtain ⟨A8, c8, rfl, -, -⟩ := Kd.R_reads HO.out
      rcases Nat.lt_or_ge i pcs.length with hlt | hge
      · obtain ⟨_, _, he_, -, hC⟩ := Kd.R_reads HV.out
        cases he_
        obtain ⟨ad, ea, hx0, hx1, hx2, hx3⟩ := at_Pc hC i hlt rfl
        cases ea
        have hq := HQ.out
        rw [List.drop_eq_getElem_cons hlt] at hq
        simp only [readL] at hq
        have WF := Aside0.mk (HW.out _ (List.getElem_mem hlt))
        obtain ⟨x0, hr0⟩ : ∃ x0, (pcs[i]).r = x0 := ⟨_, rfl⟩
        obtain ⟨x1, hr1⟩ : ∃ x1, (pcs[i]).a = x1 := ⟨_, rfl⟩
        obtain ⟨x2, hr2⟩ : ∃ x2, (pcs[i]).l = x2 := ⟨_, rfl⟩
        obtain ⟨x3, hr3⟩ : ∃ x3, (pcs[i]).b = x3 := ⟨_, rfl⟩
        rw [hr0] at hx0 hq WF
        rw [hr1] at hx1
        rw [hr2] at hx2
        rw [hr3] at hx3 hq
        clear hr0 hr1 hr2 hr3 hC HQ
        have BN := Aside0.mk (HB.out.alloc HB.out.size (.cells #[.int .i32 x0, .int .i64 x1, .int .i64 x2, .bool x3] 134))
        have ON := Aside0.mk (Kd.R_alloc HO.out (.cells #[.int .i32 x0, .int .i64 x1, .int .i64 x2, .bool x3] 134))
        have VN := Aside0.mk (Kd.R_alloc HV.out (.cells #[.int .i32 x0, .int .i64 x1, .int .i64 x2, .bool x3] 134))
        rcases x3 with _ | _
        · rw [if_neg (by decide)] at hq
          have hm2 := (HM.out.below HB.out).alloc (.cells #[.int .i32 x0, .int .i64 x1, .int .i64 x2, .bool false] 134)
          have hkey := keyOf_int_mk Tryd.underlying21 (WalkArith.wf_i32 (n := x0) (by have := WF.out; omega))
          obtain ⟨vl, ps, hlk, hvl⟩ := hm2.look_ok (z := .int .i64 0) (int_keyed Tryd.underlying21) Tryd.underlying113 (by kernel_rfl) (plainElem_int Tryd.underlying3 (by decide)) hkey
          obtain ⟨xl, rfl, -, -⟩ := plainElem_int_inv Tryd.underlying3 hvl
          rw [HG.out] at hlk
          clear hm2 hkey hvl
          by_cases hin : x0 ∈ R
          · rw [if_pos hin] at hq
            rw [decide_eq_true hin] at hlk
            by_cases h64 : out.length = 64
            · rw [if_pos h64] at hq
              have b2 : ((out.length : Int) == 64) = true := beq_iff_eq.2 (by omega)
              simp only [Prod.mk.injEq] at hq
              obtain ⟨rfl, rfl⟩ := hq
              go_wp2
              go_ret2
              exact ⟨_, rfl, Kd.R_nil _ _ _ _ _, BN.out⟩
            · rw [if_neg h64] at hq
              have b2 : ((out.length : Int) == 64) = false := beq_eq_false_iff_ne.2 (by omega)
              have hB1 : pcs.length ≤ 65536 := by have := HL.out; have := HS.out; omega
              have Q2 := Aside0.mk hq
              clear hq
              go_wp2_with (first | ((with_reducible refine gate_builtin (b := .append) (xs := #[.tmp 46, .tmp 49]) rfl ?_); at_builtin; refine Kd.R_append (Kd.int .i32) (w0 := w) w.heap.size rfl (.tmp 46) (.tmp 49) 60 21 (.int .i32 0) 4 rfl Tryd.underlying60 info21 rfl (by decide) (by omega) (.slice A8 out.length c8) out x0 [.int .i32 x0] (fun _ => True) (fun _ => False) rfl (by first | rfl | (rw [World.size_alloc]; rfl)) ?aP (fun _ hk => hk.elim) ?aF ?aO ?aB ?aS ?aL ?_; (case aP => exact rfl); (case aB => exact BN.out); (case aF => exact (fun _ _ => trivial)); (case aO => exact ON.out); (case aS => exact BN.out.size); (case aL => have := HN.out; have := HL.out; have := HS.out; omega); intro v1 w1 ho hb hg hat; have VX := Aside0.mk (Kd.R_over' VN.out (Kd.R_typed ON.out) (by decide) hg); have OX := Aside0.mk ho; have BX := Aside0.mk hb; clear ho hb hg hat))
              go_roundw
              case rel =>
                refine ⟨i + 1, out ++ [x0], by omega, by go_num, Q2, OX, VX, ⟨?_⟩, BX⟩
                have := HN.out
                rw [List.length_append]
                simp only [List.length_cons, List.length_nil]
                omega
              case measure => simp [intOf]; omega
          · rw [if_neg hin] at hq
            rw [decide_eq_false hin] at hlk
            simp only [Prod.mk.injEq] at hq
            obtain ⟨rfl, rfl⟩ := hq
            go_wp2
            go_ret2
            exact ⟨_, rfl, Kd.R_nil _ _ _ _ _, BN.out⟩
        · rw [if_pos rfl] at hq
          simp only [Prod.mk.injEq] at hq
          obtain ⟨rfl, rfl⟩ := hq
          go_wp2
          go_ret2
          exact ⟨_, rfl, Kd.R_nil _ _ _ _ _, BN.out⟩
      · obtain rfl : i = pcs.length := by omega
        have hq := HQ.out
        rw [List.drop_length] at hq
        simp only [readL, Prod.mk.injEq] at hq
        obtain ⟨rfl, rfl⟩ := hq
        go_wp2
        go_ret2
        exact ⟨_, rfl, HO.out, HB.out⟩
def word_Letters.f (l0_0 : List ByteArray) (l0_1 : List S91) (a1 : ByteArray) : Option (List Int × Int) := some (if checkB l0_0 l0_1 = true then readL (l0_1.map (·.f0)) (pieces (cutS a1)) [] else ([], 7))
set_option maxHeartbeats 1000000 in
set_option maxRecDepth 100000 in
theorem ranks_no (A0_0 : Option Addr) (c0_0 : Nat) (l0_0 : List ByteArray) (A0_1 : Option Addr) (c0_1 : Nat) (l0_1 : List S91) (w : World) (hr0_0 : Kd.C Kd.string w A0_0 l0_0.length l0_0) (hc0_0 : l0_0.length ≤ c0_0) (hr0_1 : Kd.C k91 w A0_1 l0_1.length l0_1) (hc0_1 : l0_1.length ≤ c0_1) (h : checkB l0_0 l0_1 = false) :
    Calls Tryd.prog 80 #[.agg #[.slice A0_0 l0_0.length c0_0, .slice A0_1 l0_1.length c0_1]] w fun e w' => e = .returned (.tuple #[.map none, .int .i64 7]) ∧ Below w.heap.size w w' := by
  have HR0 := Aside0.mk hr0_0
  have HC0 := Aside0.mk hc0_0
  have HR1 := Aside0.mk hr0_1
  have HC1 := Aside0.mk hc0_1
  have BW := Aside0.mk (below_alloc (Below.refl _ w) (.cells #[.slice A0_0 l0_0.length c0_0, .slice A0_1 l0_1.length c0_1] 25))
  have HC := Aside0.mk (show feature_Check.f l0_0 l0_1 = some 7 by simp [feature_Check.f, h])
  clear hr0_0 hc0_0 hr0_1 hc0_1 h
  go_enter Tryd.func80, Tryd.ntmps80
  go_wp2_with fail
  refine (feature_Check.calls _ _ l0_0 _ _ l0_1 7 _ (Kd.C_below HR0.out BW.out) HC0.out (Kd.C_below HR1.out BW.out) HC1.out HC.out).mono ?_
  rintro e w2 ⟨rfl, hb⟩
  have B2 := Aside0.mk (below_step BW.out hb)
  clear hb
  go_wp2
  go_ret2
  exact ⟨rfl, B2.out⟩
set_option maxHeartbeats 1000000 in
set_option maxRecDepth 100000 in
theorem word_Letters.calls (A0_0 : Option Addr) (c0_0 : Nat) (l0_0 : List ByteArray) (A0_1 : Option Addr) (c0_1 : Nat) (l0_1 : List S91) (a1 : ByteArray) (r1 : List Int) (r2 : Int) (w : World) (hT0 : Tabs w) (hr0_0 : Kd.C Kd.string w A0_0 l0_0.length l0_0) (hc0_0 : l0_0.length ≤ c0_0) (hr0_1 : Kd.C k91 w A0_1 l0_1.length l0_1) (hc0_1 : l0_1.length ≤ c0_1) (h : word_Letters.f l0_0 l0_1 a1 = some (r1, r2)) :
    Calls Tryd.prog 43 #[.agg #[.slice A0_0 l0_0.length c0_0, .slice A0_1 l0_1.length c0_1], .string a1] w fun e w' => ∃ v0_ : Value, e = .returned (.tuple #[v0_, .int .i64 r2]) ∧ Kd.R (Kd.int .i32) 21 w' w.heap.size (fun _ => True) v0_ r1 ∧ Below w.heap.size w w' := by
  have HR0 := Aside0.mk hr0_0
  have HC0 := Aside0.mk hc0_0
  have HR1 := Aside0.mk hr0_1
  have HC1 := Aside0.mk hc0_1
  have HT := Aside0.mk hT0
  have BW := Aside0.mk (below_alloc (Below.refl _ w) (.cells #[.slice A0_0 l0_0.length c0_0, .slice A0_1 l0_1.length c0_1] 25))
  clear hr0_0 hc0_0 hr0_1 hc0_1 hT0
  simp only [word_Letters.f, Option.some.injEq] at h
  rcases hck : checkB l0_0 l0_1 with _ | _
  · rw [hck, if_neg (by decide)] at h
    simp only [Prod.mk.injEq] at h
    obtain ⟨rfl, rfl⟩ := h
    have CK := Aside0.mk hck
    clear hck
    go_enter Tryd.func43, Tryd.ntmps43
    go_wp2_with fail
    refine (ranks_no _ _ l0_0 _ _ l0_1 _ (Kd.C_below HR0.out BW.out) HC0.out (Kd.C_below HR1.out BW.out) HC1.out CK.out).mono ?_
    rintro e w2 ⟨rfl, hb⟩
    have B2 := Aside0.mk (below_step BW.out hb)
    clear hb
    go_wp2
    go_ret2
    exact ⟨_, rfl, Kd.R_nil _ _ _ _ _, B2.out⟩
  · rw [hck, if_pos rfl] at h
    have CK := Aside0.mk hck
    have HQ := Aside0.mk h
    clear hck h
    go_enter Tryd.func43, Tryd.ntmps43
    go_wp2_with fail
    refine (ranks_ok _ _ l0_0 _ _ l0_1 _ (Kd.C_below HR0.out BW.out) HC0.out (Kd.C_below HR1.out BW.out) HC1.out CK.out).mono ?_
    rintro e w2 ⟨b, g, rfl, hm, hg, hb⟩
    have B2 := Aside0.mk (below_step BW.out hb)
    have M2 := Aside0.mk hm
    have G2 := Aside0.mk hg
    clear hb hm hg
    go_wp2_with fail
    refine (read_of b _ g _ a1 r1 r2 w2 M2.out G2.out (HT.out.below B2.out) HQ.out).mono ?_
    rintro e w3 ⟨v, rfl, hv, hb⟩
    have B3 := Aside0.mk (below_step B2.out hb)
    have V3 := Aside0.mk (Kd.R_lower hv B2.out.size)
    obtain ⟨A, c, rfl, -, -⟩ := Kd.R_reads hv
    clear hb hv
    go_wp2
    go_ret2
    exact ⟨_, rfl, V3.out, B3.out⟩
end Go.Proofs.YtjnikjnkmcbjfabDoor.X
