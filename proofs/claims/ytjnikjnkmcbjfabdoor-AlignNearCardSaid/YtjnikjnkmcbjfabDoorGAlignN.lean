/- align.Nearest, walked: the word of a list that costs least, the first of several. -/
import Derived.Test.YtjnikjnkmcbjfabDoorGAlign
import Derived.Test.YtjnikjnkmcbjfabDoorPCodec
import Derived.Laws.IdiomStrings
namespace Go.Proofs.YtjnikjnkmcbjfabDoor.X
open Go.RowKit Go.Proofs.YtjnikjnkmcbjfabDoorW.PrintWords Go.Proofs.YtjnikjnkmcbjfabDoorW.PrintLast Go.Proofs.YtjnikjnkmcbjfabDoorW.PrintMore
set_option linter.unusedVariables false
set_option linter.unusedSimpArgs false
theorem runes_pieces (s : ByteArray) : ∀ (b i : Nat) (acc : Array Value), (Conv.runesFrom s b i acc).toList = acc.toList ++ (piecesOf s b i).map (fun p => Value.int .i32 p.r)
  | 0, i, acc => by simp [Conv.runesFrom, piecesOf]
  | b + 1, i, acc => by
    unfold Conv.runesFrom piecesOf
    by_cases h : i < s.size
    · rw [if_pos h, if_pos h, runes_pieces s b]
      simp [pieceAt]
    · rw [if_neg h, if_neg h]
      simp
theorem readL_ok (R : List Int) : ∀ (ps : List Pc) (o l : List Int), readL R ps o = (l, 0) → l = o ++ ps.map (·.r)
  | [], o, l, h => by simp only [readL, Prod.mk.injEq, and_true] at h; rw [h]; simp
  | p :: ps, o, l, h => by
    unfold readL at h
    split at h
    · simp at h
    · split at h
      · split at h
        · simp at h
        · rw [readL_ok R ps _ l h]
          simp
      · simp at h
/-- A word's letters are what Go makes of it as a row of runes. -/
theorem runes_letters {F : List ByteArray} {L : List S91} {s : ByteArray} (h : (lettersV F L s).2 = 0) : (Conv.runesFrom s s.size 0 #[]).toList = (lettersV F L s).1.map (Value.int .i32) := by
  obtain ⟨hc, hz, _, _⟩ := letters_ok h
  have e : lettersV F L s = readL (L.map (·.f0)) (pieces s) [] := by
    unfold lettersV cutS
    rw [if_pos hc, if_neg (by omega)]
  have h2 : readL (L.map (·.f0)) (pieces s) [] = ((lettersV F L s).1, 0) := by rw [← e]; exact Prod.ext rfl h
  rw [runes_pieces, readL_ok _ _ _ _ h2]
  simp [pieces]
theorem run_runes {F : List ByteArray} {L : List S91} {s : ByteArray} (h : (lettersV F L s).2 = 0) (W : World) : ∃ arr : Array Value, (convert 9 60 (.string s)).run Tryd.prog W = .ok (.slice (some ⟨W.heap.size, 0, none⟩) (lettersV F L s).1.length (grownCap W (lettersV F L s).1.length 0 21)) (W.drew.alloc (.cells arr 21)) ∧ Kd.C (Kd.int .i32) (W.drew.alloc (.cells arr 21)) (some ⟨W.heap.size, 0, none⟩) (lettersV F L s).1.length (lettersV F L s).1 := by
  have hr := runes_letters h
  have hn : (Conv.runesFrom s s.size 0 #[]).size = (lettersV F L s).1.length := by rw [← Array.length_toList, hr, List.length_map]
  have hl := lettersV_len F L s
  have hrun := run_runes_of_string (P := Tryd.prog) W 9 60 21 s Tryd.underlying9 Tryd.underlying60 Tryd.underlying21 (by rw [hn]; omega)
  rw [hn] at hrun
  refine ⟨_, hrun, ?_⟩
  have hblk := blk_new W.drew (.cells (Conv.runesFrom s s.size 0 #[] ++ Array.replicate (grownCap W (lettersV F L s).1.length 0 21 - (lettersV F L s).1.length) (.int .i32 0)) 21)
  refine Kd.C_of_reads (enc := Value.int .i32) (d := (0 : Int)) (h1 := fun _ => rfl) ⟨rfl, by omega, fun _ => ⟨⟨W.heap.size, 0, none⟩, rfl, fun j hj => ?_⟩⟩
  have e2 : (Addr.add ⟨W.heap.size, 0, none⟩ j : Addr) = ⟨W.heap.size, j, none⟩ := by simp [Addr.add]; intro h; exact h.symm
  rw [e2]
  refine (blk_cell hblk j).trans ?_
  rw [Array.getElem?_append_left (by omega), ← Array.getElem?_toList, hr, List.getElem?_map, List.getElem?_eq_getElem hj]
  simp [List.getD_eq_getElem?_getD, hj]
theorem intOf_int (x : Int) : intOf (.int .i64 x) = x := rfl
/-- The error of the first text that is none. -/
def firstErr (F : List ByteArray) (L : List S91) : List ByteArray → Int
  | [] => 0
  | s :: l => if (lettersV F L s).2 = 0 then firstErr F L l else (lettersV F L s).2
theorem firstErr_all {F : List ByteArray} {L : List S91} : ∀ {l : List ByteArray}, firstErr F L l = 0 → ∀ s ∈ l, (lettersV F L s).2 = 0
  | [], _, s, h => by cases h
  | a :: l, h, s, hs => by
    unfold firstErr at h
    by_cases ha : (lettersV F L a).2 = 0
    · rw [if_pos ha] at h
      rcases List.mem_cons.1 hs with rfl | hs
      · exact ha
      · exact firstErr_all h s hs
    · rw [if_neg ha] at h
      exact absurd h ha
/-- Which one costs the least of those from a place on; up to there the least is known. -/
def nearL (f : ByteArray → Int) : List ByteArray → Nat → Nat → Int → Nat × Int
  | [], _, at_, least => (at_, least)
  | s :: l, i, at_, least => if i = 0 ∨ f s < least then nearL f l (i + 1) i (f s) else nearL f l (i + 1) at_ least
def costTo (F : List ByteArray) (L : List S91) (s t : ByteArray) : Int := cst (dd F L) (lettersV F L s).1 (lettersV F L t).1
/-- What align.Nearest tells. -/
def nearestV (F : List ByteArray) (L : List S91) (s : ByteArray) (l : List ByteArray) : Int × Int × Int :=
  if (lettersV F L s).2 = 0 then (if 4096 < l.length then (0, 0, 4) else if firstErr F L l = 0 then (if l.length = 0 then (0, 0, 8) else (((nearL (costTo F L s) l 0 0 0).1 : Int), (nearL (costTo F L s) l 0 0 0).2, 0)) else (0, 0, firstErr F L l)) else (0, 0, (lettersV F L s).2)
def align_Nearest.f (F : List ByteArray) (L : List S91) (s : ByteArray) (l : List ByteArray) : Option (Int × Int × Int) := some (nearestV F L s l)
set_option maxHeartbeats 4000000 in
set_option maxRecDepth 100000 in
theorem align_Nearest.calls (A0_0 : Option Addr) (c0_0 : Nat) (l0_0 : List ByteArray) (A0_1 : Option Addr) (c0_1 : Nat) (l0_1 : List S91) (a1 : ByteArray) (A2 : Option Addr) (c2 : Nat) (l2 : List ByteArray) (r1 : Int) (r2 : Int) (r3 : Int) (w : World) (hT0 : Tabs w) (hr0_0 : Kd.C Kd.string w A0_0 l0_0.length l0_0) (hc0_0 : l0_0.length ≤ c0_0) (hr0_1 : Kd.C k91 w A0_1 l0_1.length l0_1) (hc0_1 : l0_1.length ≤ c0_1) (hr2 : Kd.C Kd.string w A2 l2.length l2) (hc2 : l2.length ≤ c2) (h : align_Nearest.f l0_0 l0_1 a1 l2 = some (r1, r2, r3)) :
    Calls Tryd.prog 18 #[.agg #[.slice A0_0 l0_0.length c0_0, .slice A0_1 l0_1.length c0_1], .string a1, .slice A2 l2.length c2] w fun e w' => e = .returned (.tuple #[.int .i64 r1, .int .i64 r2, .int .i64 r3]) ∧ Below w.heap.size w w' := by
  have HR0 := Aside0.mk hr0_0
  have HC0 := Aside0.mk hc0_0
  have HR1 := Aside0.mk hr0_1
  have HC1 := Aside0.mk hc0_1
  have HR2 := Aside0.mk hr2
  have HT := Aside0.mk hT0
  have KA := Aside0.mk (blk_new w (.cells #[.slice A0_0 l0_0.length c0_0, .slice A0_1 l0_1.length c0_1] 25))
  have HB := Aside0.mk (below_alloc (Below.refl _ w) (.cells #[.slice A0_0 l0_0.length c0_0, .slice A0_1 l0_1.length c0_1] 25))
  have HL := Aside0.mk (show word_Letters.f l0_0 l0_1 a1 = some ((lettersV l0_0 l0_1 a1).1, (lettersV l0_0 l0_1 a1).2) from letters_eq l0_0 l0_1 a1)
  have hv := Option.some.inj h
  unfold nearestV at hv
  clear hr0_0 hc0_0 hr0_1 hc0_1 hT0 hr2 hc2 h
  by_cases he : (lettersV l0_0 l0_1 a1).2 = 0
  · rw [if_pos he] at hv
    have b1 : ((lettersV l0_0 l0_1 a1).2 != 0) = false := bne_eq_false_iff_eq.mpr he
    have E1 := Aside0.mk he
    clear he
    by_cases hmany : 4096 < l2.length
    · rw [if_pos hmany] at hv
      obtain ⟨rfl, rfl, rfl⟩ := Prod.mk.inj hv |>.imp id Prod.mk.inj
      have i1 : decide (4096 < l2.length) = true := decide_eq_true hmany
      have i2 : decide ((4096 : Int) < (l2.length : Int)) = true := decide_eq_true (by omega)
      clear hv hmany
      go_enter Tryd.func18, Tryd.ntmps18
      go_wp2_with fail
      refine (word_Letters.calls _ _ l0_0 _ _ l0_1 a1 (lettersV l0_0 l0_1 a1).1 (lettersV l0_0 l0_1 a1).2 _ (HT.out.below HB.out) (Kd.C_below HR0.out HB.out) HC0.out (Kd.C_below HR1.out HB.out) HC1.out HL.out).mono ?_
      rintro e w2 ⟨v, rfl, hv, hb⟩
      obtain ⟨Ax, cx, rfl, hlc, hC⟩ := Kd.R_reads hv
      have n_ := Aside0.mk (below_step HB.out hb)
      clear HB
      have HB := n_
      clear n_
      have n_ := Aside0.mk (blk_below KA.out hb)
      clear KA
      have KA := n_
      clear n_
      clear hv hb hlc hC
      go_wp2
      go_ret3
      exact ⟨rfl, HB.out⟩
    · rw [if_neg hmany] at hv
      have i1 : decide (4096 < l2.length) = false := decide_eq_false hmany
      have i2 : decide ((4096 : Int) < (l2.length : Int)) = false := decide_eq_false (by omega)
      have LN := Aside0.mk hmany
      have HV := Aside0.mk hv
      clear hv hmany
      go_enter Tryd.func18, Tryd.ntmps18
      go_wp2_with fail
      refine (word_Letters.calls _ _ l0_0 _ _ l0_1 a1 (lettersV l0_0 l0_1 a1).1 (lettersV l0_0 l0_1 a1).2 _ (HT.out.below HB.out) (Kd.C_below HR0.out HB.out) HC0.out (Kd.C_below HR1.out HB.out) HC1.out HL.out).mono ?_
      rintro e w2 ⟨v, rfl, hv, hb⟩
      obtain ⟨Ax, cx, rfl, hlc, hC⟩ := Kd.R_reads hv
      have n_ := Aside0.mk (below_step HB.out hb)
      clear HB
      have HB := n_
      clear n_
      have n_ := Aside0.mk (blk_below KA.out hb)
      clear KA
      have KA := n_
      clear n_
      have LCx := Aside0.mk hlc
      have CX := Aside0.mk hC
      clear hv hb hlc hC
      go_wp2
      go_loopw [33] (fun v w' => ∃ i : Nat, v = .int .i64 (i : Int) ∧ Aside0 (i ≤ l2.length) ∧ Aside0 (firstErr l0_0 l0_1 l2 = firstErr l0_0 l0_1 (l2.drop i)) ∧ Aside0 (w'.heap[w.heap.size]? = some (.cells #[.slice A0_0 l0_0.length c0_0, .slice A0_1 l0_1.length c0_1] 25 (0, 0))) ∧ Aside0 (Kd.C (Kd.int .i32) w' Ax (lettersV l0_0 l0_1 a1).1.length (lettersV l0_0 l0_1 a1).1) ∧ Aside0 (Below w.heap.size w w')) (fun v _ => l2.length - (intOf v).toNat)
      case atStart => exact ⟨0, rfl, ⟨Nat.zero_le _⟩, ⟨rfl⟩, KA, CX, HB⟩
      case round =>
        clear KA CX HB
        obtain ⟨i, rfl, HI, HF, KA, CX, HB⟩ := hrel
        have hi := HI.out
        rcases Nat.lt_or_ge i l2.length with hlt | hge
        · have q0 : decide (i < l2.length) = true := decide_eq_true hlt
          have p0 : (0 : Int) ≤ (i : Int) := by omega
          have p1 : (i : Int) < (l2.length : Int) := by omega
          obtain ⟨ad, ea, hx⟩ := Kd.at_string HR2.out (i : Int) p0 p1
          cases ea
          replace hx := (HB.out.cell (World.block_lt_of_cell? w _ hx)).trans hx
          rw [Int.toNat_natCast] at hx
          have hrd : rdOf ByteArray.empty l2 (i : Int) = l2[i] := by simp [rdOf, List.getD_eq_getElem?_getD, hlt]
          rw [hrd] at hx
          have DX := Aside0.mk (List.drop_eq_getElem_cons hlt)
          have LT := Aside0.mk hlt
          have HN := Aside0.mk LN.out
          have k0 : wr.cell? ⟨w.heap.size, 0, none⟩ = some (.slice A0_0 l0_0.length c0_0) := (blk_cell KA.out 0).trans rfl
          have k1 : wr.cell? ⟨w.heap.size, 1, none⟩ = some (.slice A0_1 l0_1.length c0_1) := (blk_cell KA.out 1).trans rfl
          obtain ⟨s, hs⟩ : ∃ s, l2[i] = s := ⟨_, rfl⟩
          rw [hs] at hx DX
          have HK := Aside0.mk (show word_Check.f l0_0 l0_1 s = some (lettersV l0_0 l0_1 s).2 by unfold word_Check.f; rw [letters_eq, Option.bind_some])
          clear hi hlt hrd hs
          by_cases hz : (lettersV l0_0 l0_1 s).2 = 0
          · have c1 : ((lettersV l0_0 l0_1 s).2 != 0) = false := bne_eq_false_iff_eq.mpr hz
            have HZ := Aside0.mk hz
            clear hz
            go_wp2_with fail
            refine (word_Check.calls _ _ l0_0 _ _ l0_1 s _ _ (HT.out.below HB.out) (Kd.C_below HR0.out HB.out) HC0.out (Kd.C_below HR1.out HB.out) HC1.out HK.out).mono ?_
            rintro e w4 ⟨rfl, hb⟩
            have B4 := Aside0.mk (below_step HB.out hb)
            have K4 := Aside0.mk (blk_below KA.out hb)
            have C4 := Aside0.mk (Kd.C_below CX.out hb)
            clear hb k0 k1
            have ow : wrap64 ((i : Int) + 1) = (i : Int) + 1 := w64 (by have := LT.out; have := HN.out; omega)
            go_wp2
            go_roundw
            case rel => exact ⟨i + 1, by rw [ow]; exact congrArg _ (Int.natCast_succ i).symm, ⟨LT.out⟩, ⟨by rw [HF.out, DX.out, firstErr, if_pos HZ.out]⟩, K4, C4, B4⟩
            case measure =>
              rw [intOf_int, intOf_int, ow]
              clear ow
              have h9 := LT.out
              omega
          · have c1 : ((lettersV l0_0 l0_1 s).2 != 0) = true := bne_iff_ne.mpr hz
            have hfe : firstErr l0_0 l0_1 l2 = (lettersV l0_0 l0_1 s).2 := by rw [HF.out, DX.out, firstErr, if_neg hz]
            have hv := HV.out
            rw [hfe, if_neg hz] at hv
            obtain ⟨rfl, rfl, rfl⟩ := Prod.mk.inj hv |>.imp id Prod.mk.inj
            clear hz hfe hv
            go_wp2_with fail
            refine (word_Check.calls _ _ l0_0 _ _ l0_1 s _ _ (HT.out.below HB.out) (Kd.C_below HR0.out HB.out) HC0.out (Kd.C_below HR1.out HB.out) HC1.out HK.out).mono ?_
            rintro e w4 ⟨rfl, hb⟩
            have B4 := Aside0.mk (below_step HB.out hb)
            clear hb k0 k1
            go_wp2
            go_ret3
            exact ⟨rfl, B4.out⟩
        · have q0 : decide (i < l2.length) = false := decide_eq_false (by omega)
          have hfe : firstErr l0_0 l0_1 l2 = 0 := by rw [HF.out, show i = l2.length by omega, List.drop_length]; rfl
          have FA := Aside0.mk (firstErr_all hfe)
          have hv := HV.out
          rw [hfe, if_pos rfl] at hv
          clear HV HF hfe hi hge
          obtain ⟨wo, hwo⟩ : ∃ wo : World, wo = wr := ⟨_, rfl⟩
          subst hwo
          by_cases h0 : l2.length = 0
          · rw [if_pos h0] at hv
            obtain ⟨rfl, rfl, rfl⟩ := Prod.mk.inj hv |>.imp id Prod.mk.inj
            have c1 : ((l2.length : Int) == 0) = true := beq_iff_eq.2 (by omega)
            clear h0 hv
            go_wp2
            go_ret3
            exact ⟨rfl, HB.out⟩
          · rw [if_neg h0] at hv
            have c1 : ((l2.length : Int) == 0) = false := beq_eq_false_iff_ne.2 (by omega)
            have HV := Aside0.mk hv
            clear h0 hv
            go_wp2
            go_loopw [14, 15, 49] (fun v14 v15 v49 w' => ∃ (i at_ : Nat) (c : Int), v14 = .int .i64 (at_ : Int) ∧ v15 = .int .i64 c ∧ v49 = .int .i64 (i : Int) ∧ Aside0 (i ≤ l2.length) ∧ Aside0 (nearL (costTo l0_0 l0_1 a1) l2 0 0 0 = nearL (costTo l0_0 l0_1 a1) (l2.drop i) i at_ c) ∧ Aside0 (w'.heap[w.heap.size]? = some (.cells #[.slice A0_0 l0_0.length c0_0, .slice A0_1 l0_1.length c0_1] 25 (0, 0))) ∧ Aside0 (Kd.C (Kd.int .i32) w' Ax (lettersV l0_0 l0_1 a1).1.length (lettersV l0_0 l0_1 a1).1) ∧ Aside0 (Below w.heap.size w w')) (fun _ _ v _ => l2.length - (intOf v).toNat)
            case atStart => exact ⟨0, 0, 0, rfl, rfl, rfl, ⟨Nat.zero_le _⟩, ⟨rfl⟩, KA, CX, HB⟩
            case round =>
              clear KA CX HB
              obtain ⟨i, at_, c, rfl, rfl, rfl, HI, HF, KA, CX, HB⟩ := hrel
              have hi := HI.out
              rcases Nat.lt_or_ge i l2.length with hlt | hge
              · have q1 : decide (i < l2.length) = true := decide_eq_true hlt
                have p0 : (0 : Int) ≤ (i : Int) := by omega
                have p1 : (i : Int) < (l2.length : Int) := by omega
                obtain ⟨ad, ea, hx⟩ := Kd.at_string HR2.out (i : Int) p0 p1
                cases ea
                replace hx := (HB.out.cell (World.block_lt_of_cell? w _ hx)).trans hx
                rw [Int.toNat_natCast] at hx
                have hrd : rdOf ByteArray.empty l2 (i : Int) = l2[i] := by simp [rdOf, List.getD_eq_getElem?_getD, hlt]
                rw [hrd] at hx
                have DX := Aside0.mk (List.drop_eq_getElem_cons hlt)
                have LT := Aside0.mk hlt
                have HN := Aside0.mk LN.out
                have k0 : wr.cell? ⟨w.heap.size, 0, none⟩ = some (.slice A0_0 l0_0.length c0_0) := (blk_cell KA.out 0).trans rfl
                have k1 : wr.cell? ⟨w.heap.size, 1, none⟩ = some (.slice A0_1 l0_1.length c0_1) := (blk_cell KA.out 1).trans rfl
                have hall := FA.out _ (List.getElem_mem hlt)
                obtain ⟨s, hs⟩ : ∃ s, l2[i] = s := ⟨_, rfl⟩
                rw [hs] at hx DX hall
                have HS := Aside0.mk hall
                clear hi hlt hrd hs hall
                obtain ⟨arm, hrun, hM⟩ := run_runes HS.out wr
                go_wp2_with fail
                have hxl := lettersV_len l0_0 l0_1 a1
                have hyl := lettersV_len l0_0 l0_1 s
                have KM := Aside0.mk (blk_alloc (blk_drew KA.out) (.cells arm 21))
                have BM := Aside0.mk (below_alloc (below_drew1 HB.out) (.cells arm 21))
                refine (filled_any _ _ l0_0 _ _ l0_1 _ _ (lettersV l0_0 l0_1 a1).1 _ _ (lettersV l0_0 l0_1 s).1 _ (Kd.C_below HR0.out BM.out) HC0.out (Kd.C_below HR1.out BM.out) HC1.out (Kd.C_below CX.out (below_alloc (below_drew1 (Below.refl _ _)) _)) LCx.out hM (grownCap_ge _ _ _ _) hxl hyl (lettersV_ne l0_0 l0_1 a1) (lettersV_ne l0_0 l0_1 s)).mono ?_
                rintro e w4 ⟨b, arr, rfl, hsz, hk, ht, hb⟩
                have B4 := Aside0.mk (below_step BM.out hb)
                have K4 := Aside0.mk (blk_below KM.out hb)
                have C4 := Aside0.mk (Kd.C_below (Kd.C_below CX.out (below_alloc (below_drew1 (Below.refl _ _)) (.cells arm 21))) hb)
                have hc : w4.cell? ⟨b, 2, none⟩ = some (.int .i64 (cst (dd l0_0 l0_1) (lettersV l0_0 l0_1 a1).1 (lettersV l0_0 l0_1 s).1)) := (blk_cell hk 2).trans (ht.cost 0 0 (Nat.zero_le _) (Nat.zero_le _) trivial)
                clear hk ht hb hsz hM hrun KM BM k0 k1 hxl hyl
                obtain ⟨x, hxq⟩ : ∃ x, cst (dd l0_0 l0_1) (lettersV l0_0 l0_1 a1).1 (lettersV l0_0 l0_1 s).1 = x := ⟨_, rfl⟩
                rw [hxq] at hc
                have XQ := Aside0.mk hxq
                clear hxq
                have ow : wrap64 ((i : Int) + 1) = (i : Int) + 1 := w64 (by have := LT.out; have := HN.out; omega)
                by_cases hi0 : i = 0
                · have f1 : ((i : Int) == 0) = true := beq_iff_eq.2 (by clear ow; omega)
                  have I0 := Aside0.mk hi0
                  clear hi0
                  go_wp2
                  go_roundw
                  case rel => exact ⟨i + 1, i, x, rfl, rfl, by rw [ow]; exact congrArg _ (Int.natCast_succ i).symm, ⟨LT.out⟩, ⟨by rw [HF.out, DX.out, nearL, show costTo l0_0 l0_1 a1 s = x from XQ.out, if_pos (Or.inl I0.out)]⟩, K4, C4, B4⟩
                  case measure =>
                    rw [intOf_int, intOf_int, ow]
                    clear ow
                    have h9 := LT.out
                    omega
                · have f1 : ((i : Int) == 0) = false := beq_eq_false_iff_ne.2 (by clear ow; omega)
                  have I0 := Aside0.mk hi0
                  clear hi0
                  by_cases hlt2 : x < c
                  · have f2 : decide (x < c) = true := decide_eq_true hlt2
                    have I1 := Aside0.mk hlt2
                    clear hlt2
                    go_wp2
                    go_roundw
                    case rel => exact ⟨i + 1, i, x, rfl, rfl, by rw [ow]; exact congrArg _ (Int.natCast_succ i).symm, ⟨LT.out⟩, ⟨by rw [HF.out, DX.out, nearL, show costTo l0_0 l0_1 a1 s = x from XQ.out, if_pos (Or.inr I1.out)]⟩, K4, C4, B4⟩
                    case measure =>
                      rw [intOf_int, intOf_int, ow]
                      clear ow
                      have h9 := LT.out
                      omega
                  · have f2 : decide (x < c) = false := decide_eq_false hlt2
                    have I1 := Aside0.mk hlt2
                    clear hlt2
                    go_wp2
                    go_roundw
                    case rel => exact ⟨i + 1, at_, c, rfl, rfl, by rw [ow]; exact congrArg _ (Int.natCast_succ i).symm, ⟨LT.out⟩, ⟨by rw [HF.out, DX.out, nearL, show costTo l0_0 l0_1 a1 s = x from XQ.out, if_neg (fun h => h.elim I0.out (fun q => absurd q (Int.not_lt.2 I1.out)))]⟩, K4, C4, B4⟩
                    case measure =>
                      rw [intOf_int, intOf_int, ow]
                      clear ow
                      have h9 := LT.out
                      omega
              · have q1 : decide (i < l2.length) = false := decide_eq_false (by omega)
                have hv := HV.out
                rw [HF.out, show i = l2.length by omega, List.drop_length] at hv
                obtain ⟨rfl, rfl, rfl⟩ := Prod.mk.inj hv |>.imp id Prod.mk.inj
                clear hi hge hv
                go_wp2
                go_ret3
                exact ⟨rfl, HB.out⟩
  · rw [if_neg he] at hv
    obtain ⟨rfl, rfl, rfl⟩ := Prod.mk.inj hv |>.imp id Prod.mk.inj
    have b1 : ((lettersV l0_0 l0_1 a1).2 != 0) = true := bne_iff_ne.mpr he
    clear he hv
    go_enter Tryd.func18, Tryd.ntmps18
    go_wp2_with fail
    refine (word_Letters.calls _ _ l0_0 _ _ l0_1 a1 (lettersV l0_0 l0_1 a1).1 (lettersV l0_0 l0_1 a1).2 _ (HT.out.below HB.out) (Kd.C_below HR0.out HB.out) HC0.out (Kd.C_below HR1.out HB.out) HC1.out HL.out).mono ?_
    rintro e w2 ⟨v, rfl, hv, hb⟩
    obtain ⟨Ax, cx, rfl, hlc, hC⟩ := Kd.R_reads hv
    have n_ := Aside0.mk (below_step HB.out hb)
    clear HB
    have HB := n_
    clear n_
    have n_ := Aside0.mk (blk_below KA.out hb)
    clear KA
    have KA := n_
    clear n_
    clear hv hb hlc hC
    go_wp2
    go_ret3
    exact ⟨rfl, HB.out⟩
end Go.Proofs.YtjnikjnkmcbjfabDoor.X
