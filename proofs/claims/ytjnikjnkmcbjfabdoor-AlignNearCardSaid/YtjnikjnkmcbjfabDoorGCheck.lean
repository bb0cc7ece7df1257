/- feature.Check, walked: an alphabet may be just if its features and letters may, and none of them stands twice. -/
import Derived.Test.YtjnikjnkmcbjfabDoorT1
import Derived.Test.YtjnikjnkmcbjfabDoorX14
import Derived.Test.YtjnikjnkmcbjfabDoorX2
import Derived.StringKeys
namespace Go.Proofs.YtjnikjnkmcbjfabDoor.X
open Go.RowKit Go.Maps Go.WideMaps Go.Proofs.YtjnikjnkmcbjfabDoorW.PrintWords Go.Proofs.YtjnikjnkmcbjfabDoorW.PrintLast Go.Proofs.YtjnikjnkmcbjfabDoorW.PrintMore
/-- May a text be a feature's name? -/
def nameB (s : ByteArray) : Bool := (feature_named.f s).getD false
theorem named_eq (s : ByteArray) : feature_named.f s = some (nameB s) := by
  have h : ∃ b, feature_named.f s = some b := by
    unfold feature_named.f
    split
    · exact ⟨_, rfl⟩
    · split
      · rename_i h1 h2
        have hs : strings_Trim.f s (⟨#[97, 98, 99, 100, 101, 102, 103, 104, 105, 106, 107, 108, 109, 110, 111, 112, 113, 114, 115, 116, 117, 118, 119, 120, 121, 122]⟩ : ByteArray) = some ⟨(Lib.trimS s.data.toList [97, 98, 99, 100, 101, 102, 103, 104, 105, 106, 107, 108, 109, 110, 111, 112, 113, 114, 115, 116, 117, 118, 119, 120, 121, 122]).toArray⟩ := by
          unfold strings_Trim.f
          rw [if_pos ⟨by omega, by decide⟩]
        rw [hs]
        exact ⟨_, rfl⟩
      · exact ⟨_, rfl⟩
  obtain ⟨b, hb⟩ := h
  simp [nameB, hb]
/-- May a rune be a letter's? -/
def letterB (r : Int) : Bool := decide (97 ≤ r ∧ r ≤ 122) || decide (65 ≤ r ∧ r ≤ 90) || decide (161 ≤ r ∧ r ≤ 1114111 ∧ r ≠ 65533 ∧ r / 2048 ≠ 27)
theorem lettered_eq (r : Int) : feature_lettered.f 3 r = some (letterB r) := by
  unfold feature_lettered.f letterB
  simp only [feature_lettered.j0, feature_lettered.j1]
  repeat' split
  all_goals simp only [decide_eq_true_eq, Option.some.injEq, Bool.false_eq_true, not_false_eq_true] at *
  all_goals first | omega | (refine Eq.symm ?_; simp only [Bool.or_eq_true, decide_eq_true_eq]; omega) | (refine Eq.symm ?_; simp only [Bool.or_eq_false_iff, decide_eq_false_iff_not]; omega)
/-- May a class be? -/
def withinB (F : List ByteArray) (p m : Int) : Bool := (shr .u32 (Go.bits .or .u32 p m) (F.length : Int) == 0) && (Go.bits .and .u32 p m == 0)
theorem within_eq (F : List ByteArray) (L : List S91) (p m : Int) : feature_within.f F L p m = some (withinB F p m) := by
  unfold feature_within.f withinB
  split
  · rename_i h
    simp [h]
  · rename_i h
    simp [h]
theorem named_size {s : ByteArray} (h : nameB s = true) : s.size ≤ 32 := by
  unfold nameB feature_named.f at h
  split at h
  · simp at h
  · split at h
    · omega
    · simp at h
theorem letter_wf {r : Int} (h : letterB r = true) : (Lit.int .i32 r).wf = true := by
  simp only [letterB, Bool.or_eq_true, decide_eq_true_eq] at h
  exact WalkArith.wf_i32 (by omega)
/-- Does feature n stand ahead of itself, too? -/
def dupB (F : List ByteArray) (n : Nat) : Bool := (F.take n).any fun s => s.data.toList == (rdOf ByteArray.empty F n).data.toList
/-- A set of texts, as a map tells it. -/
def SetS (g : Lit → Option (DataW Unit)) (l : List ByteArray) : Prop := ∀ s : ByteArray, g (.string s.data.toList) = if (l.any fun x => x.data.toList == s.data.toList) then some (.lit (.bool true)) else none
/-- A set of runes. -/
def SetR (g : Lit → Option (DataW Unit)) (l : List Int) : Prop := ∀ r : Int, g (.int .i32 r) = if r ∈ l then some (.lit (.bool true)) else none
open Classical in
theorem SetS.put {g : Lit → Option (DataW Unit)} {F : List ByteArray} {i : Nat} (h : SetS g (F.take i)) (hi : i < F.length) :
    SetS (fun x => if x = .string (rdOf ByteArray.empty F i).data.toList then some (.lit (.bool true)) else g x) (F.take (i + 1)) := by
  intro s
  have e : F.take (i + 1) = F.take i ++ [rdOf ByteArray.empty F i] := by
    rw [List.take_succ_eq_append_getElem hi]
    simp [rdOf, hi]
  rw [e]
  simp only [List.any_append, List.any_cons, List.any_nil, Bool.or_false, Lit.string.injEq]
  by_cases hs : s.data.toList = (rdOf ByteArray.empty F i).data.toList
  · simp [hs]
  · have : ((rdOf ByteArray.empty F i).data.toList == s.data.toList) = false := by rw [beq_eq_false_iff_ne]; exact fun e => hs e.symm
    simp only [if_neg hs, this, Bool.or_false]
    exact h s
open Classical in
theorem SetR.put {g : Lit → Option (DataW Unit)} {L : List S91} {i : Nat} (h : SetR g ((L.take i).map (·.f0))) (hi : i < L.length) :
    SetR (fun x => if x = .int .i32 (rd_T91 L i).f0 then some (.lit (.bool true)) else g x) ((L.take (i + 1)).map (·.f0)) := by
  intro r
  have e : L.take (i + 1) = L.take i ++ [rd_T91 L i] := by
    rw [List.take_succ_eq_append_getElem hi]
    simp [rd_T91, hi]
  rw [e]
  simp only [List.map_append, List.mem_append, List.map_cons, List.map_nil, List.mem_singleton, Lit.int.injEq, true_and]
  by_cases hs : r = (rd_T91 L i).f0
  · simp [hs]
  · simp only [hs, or_false]
    exact h r
/-- The first n features may be. -/
def featsB (F : List ByteArray) (n : Nat) : Bool := (List.range n).all fun j => nameB (rdOf ByteArray.empty F j) && !dupB F j
theorem featsB_succ (F : List ByteArray) (n : Nat) : featsB F (n + 1) = (featsB F n && (nameB (rdOf ByteArray.empty F n) && !dupB F n)) := by
  simp [featsB, List.range_succ, List.all_append]
/-- The first n letters may be. -/
def lettersB (F : List ByteArray) (L : List S91) (n : Nat) : Bool :=
  (List.range n).all fun j => letterB (rd_T91 L j).f0 && !decide ((rd_T91 L j).f0 ∈ (L.take j).map (·.f0)) && withinB F (rd_T91 L j).f1 (rd_T91 L j).f2
theorem lettersB_succ (F : List ByteArray) (L : List S91) (n : Nat) : lettersB F L (n + 1) = (lettersB F L n && (letterB (rd_T91 L n).f0 && !decide ((rd_T91 L n).f0 ∈ (L.take n).map (·.f0)) && withinB F (rd_T91 L n).f1 (rd_T91 L n).f2)) := by
  simp [lettersB, List.range_succ, List.all_append]
/-- May an alphabet be? -/
def checkB (F : List ByteArray) (L : List S91) : Bool := decide (F.length ≤ 24) && decide (1 ≤ L.length) && decide (L.length ≤ 128) && featsB F F.length && lettersB F L L.length
def feature_Check.f (l0_0 : List ByteArray) (l0_1 : List S91) : Option (Int) := some (if checkB l0_0 l0_1 then 0 else 7)
theorem featsB_mono (F : List ByteArray) {m n : Nat} (h : m ≤ n) (hn : featsB F n = true) : featsB F m = true := by
  simp only [featsB, List.all_eq_true, List.mem_range] at *
  exact fun j hj => hn j (by omega)
theorem lettersB_mono (F : List ByteArray) (L : List S91) {m n : Nat} (h : m ≤ n) (hn : lettersB F L n = true) : lettersB F L m = true := by
  simp only [lettersB, List.all_eq_true, List.mem_range] at *
  exact fun j hj => hn j (by omega)
set_option maxHeartbeats 1000000 in
set_option maxRecDepth 100000 in
theorem feature_Check.calls (A0_0 : Option Addr) (c0_0 : Nat) (l0_0 : List ByteArray) (A0_1 : Option Addr) (c0_1 : Nat) (l0_1 : List S91) (r : Int) (w : World) (hr0_0 : Kd.C Kd.string w A0_0 l0_0.length l0_0) (hc0_0 : l0_0.length ≤ c0_0) (hr0_1 : Kd.C k91 w A0_1 l0_1.length l0_1) (hc0_1 : l0_1.length ≤ c0_1) (h : feature_Check.f l0_0 l0_1 = some r) :
    Calls Tryd.prog 49 #[.agg #[.slice A0_0 l0_0.length c0_0, .slice A0_1 l0_1.length c0_1]] w fun e w' => e = .returned (.int .i64 r) ∧ Below w.heap.size w w' := by
  have HQ := Aside0.mk (Option.some.inj h).symm
  clear h
  have HR0 := Aside0.mk hr0_0
  have HC0 := Aside0.mk hc0_0
  have HR1 := Aside0.mk hr0_1
  have HC1 := Aside0.mk hc0_1
  clear hr0_0 hc0_0 hr0_1 hc0_1
  rcases Nat.lt_or_ge 24 l0_0.length with h24 | h24
  · have hck : checkB l0_0 l0_1 = false := by simp [checkB]; omega
    rw [hck] at HQ
    obtain rfl := HQ.out
    clear hck HQ
    have b0 : decide (24 < (l0_0.length : Int)) = true := decide_eq_true (by omega)
    have b1 : decide (24 < l0_0.length) = true := decide_eq_true (by omega)
    go_enter Tryd.func49, Tryd.ntmps49
    go_wp2
    go_ret
    exact ⟨rfl, (Below.refl _ _).alloc (Nat.le_refl _) _⟩
  rcases Nat.lt_or_ge l0_1.length 1 with h1 | h1
  · have hck : checkB l0_0 l0_1 = false := by simp [checkB]; omega
    rw [hck] at HQ
    obtain rfl := HQ.out
    clear hck HQ
    have b0 : decide (24 < (l0_0.length : Int)) = false := decide_eq_false (by omega)
    have b1 : decide (24 < l0_0.length) = false := decide_eq_false (by omega)
    have b2 : decide ((l0_1.length : Int) < 1) = true := decide_eq_true (by omega)
    have b3 : decide (l0_1.length < 1) = true := decide_eq_true (by omega)
    go_enter Tryd.func49, Tryd.ntmps49
    go_wp2
    go_ret
    exact ⟨rfl, (Below.refl _ _).alloc (Nat.le_refl _) _⟩
  rcases Nat.lt_or_ge 128 l0_1.length with h128 | h128
  · have hck : checkB l0_0 l0_1 = false := by simp [checkB]; omega
    rw [hck] at HQ
    obtain rfl := HQ.out
    clear hck HQ
    have b0 : decide (24 < (l0_0.length : Int)) = false := decide_eq_false (by omega)
    have b1 : decide (24 < l0_0.length) = false := decide_eq_false (by omega)
    have b2 : decide ((l0_1.length : Int) < 1) = false := decide_eq_false (by omega)
    have b3 : decide (l0_1.length < 1) = false := decide_eq_false (by omega)
    have b4 : decide (128 < (l0_1.length : Int)) = true := decide_eq_true (by omega)
    have b5 : decide (128 < l0_1.length) = true := decide_eq_true (by omega)
    go_enter Tryd.func49, Tryd.ntmps49
    go_wp2
    go_ret
    exact ⟨rfl, (Below.refl _ _).alloc (Nat.le_refl _) _⟩
  have b0 : decide (24 < (l0_0.length : Int)) = false := decide_eq_false (by omega)
  have b1 : decide (24 < l0_0.length) = false := decide_eq_false (by omega)
  have b2 : decide ((l0_1.length : Int) < 1) = false := decide_eq_false (by omega)
  have b3 : decide (l0_1.length < 1) = false := decide_eq_false (by omega)
  have b4 : decide (128 < (l0_1.length : Int)) = false := decide_eq_false (by omega)
  have b5 : decide (128 < l0_1.length) = false := decide_eq_false (by omega)
  have hmm := @run_makeMap Tryd.prog
  go_enter Tryd.func49, Tryd.ntmps49
  go_wp2
  have hb0 : Below w.heap.size w ((w.alloc (.cells #[.slice A0_0 l0_0.length c0_0, .slice A0_1 l0_1.length c0_1] 25)).alloc (.map #[] 0)) := ((Below.refl _ _).alloc (Nat.le_refl _) _).alloc (by simp) _
  have hk0 : ((w.alloc (.cells #[.slice A0_0 l0_0.length c0_0, .slice A0_1 l0_1.length c0_1] 25)).alloc (.map #[] 0)).heap[w.heap.size]? = some (.cells #[.slice A0_0 l0_0.length c0_0, .slice A0_1 l0_1.length c0_1] 25 (0, 0)) := by
    exact blk_alloc (by simpa using heap_alloc_new w _) _
  have hm0 := MapFn.made Tryd.prog 9 (plainElem Tryd.prog 4) (w.alloc (.cells #[.slice A0_0 l0_0.length c0_0, .slice A0_1 l0_1.length c0_1] 25))
  rw [World.size_alloc] at hm0
  have hs0 : SetS (fun _ => none) (l0_0.take 0) := fun s => by simp
  have K0 := Aside0.mk hk0
  have B0 := Aside0.mk hb0
  have M0 := Aside0.mk hm0
  have S0 := Aside0.mk hs0
  clear hk0 hb0 hm0 hs0
  go_loopw [29] (fun v w' => ∃ i : Nat, i ≤ l0_0.length ∧ v = .int .i64 i ∧ Aside0 (featsB l0_0 i = true) ∧ Aside0 (w'.heap[w.heap.size]? = some (.cells #[.slice A0_0 l0_0.length c0_0, .slice A0_1 l0_1.length c0_1] 25 (0, 0))) ∧ Aside0 (∃ g, MapFn Tryd.prog 9 (plainElem Tryd.prog 4) w' (w.heap.size + 1) i g ∧ SetS g (l0_0.take i)) ∧ Aside0 (Below w.heap.size w w')) (fun v _ => l0_0.length - (intOf v).toNat)
  case atStart => exact ⟨0, by omega, rfl, ⟨rfl⟩, K0, ⟨_, M0.out, S0.out⟩, B0⟩
  case round =>
    clear K0 B0 M0 S0
    obtain ⟨i, hi, rfl, HF, HK, HM, HB⟩ := hrel
    rcases Nat.lt_or_ge i l0_0.length with hlt | hge
    · have p0 : 0 ≤ (i : Int) := by omega
      have q0 : (i : Int) < (l0_0.length : Int) := by omega
      obtain ⟨ad, ea, hx⟩ := Kd.at_string HR0.out i p0 q0
      cases ea
      replace hx := (HB.out.cell (World.block_lt_of_cell? w _ hx)).trans hx
      rw [Int.toNat_natCast] at hx
      have hfs := Aside0.mk (featsB_succ l0_0 i)
      rcases hn : nameB (rdOf ByteArray.empty l0_0 i) with _ | _
      · have hbad : checkB l0_0 l0_1 = false := by
          have h3 : featsB l0_0 (i + 1) = false := by rw [hfs.out, hn]; simp
          have h4 : featsB l0_0 l0_0.length = false := by
            rcases h5 : featsB l0_0 l0_0.length with _ | _
            · rfl
            · rw [featsB_mono l0_0 (by omega) h5] at h3; cases h3
          simp [checkB, h4]
        rw [hbad] at HQ
        clear hbad
        have hc := Aside0.mk (show feature_named.f (rdOf ByteArray.empty l0_0 i) = some false by rw [named_eq, hn])
        clear hn
        go_wp2_with (go_at_call 87; refine (feature_named.calls _ _ _ hc.out).mono ?_; rintro e w2 ⟨rfl, hb⟩)
        go_ret
        exact ⟨by rw [HQ.out]; rfl, below_step HB.out hb⟩
      · have hsz : (rdOf ByteArray.empty l0_0 i).size ≤ maxLen := by have := named_size hn; unfold maxLen; omega
        have HS := Aside0.mk hsz
        have HN := Aside0.mk hn
        have hc := Aside0.mk (show feature_named.f (rdOf ByteArray.empty l0_0 i) = some true by rw [named_eq, hn])
        clear hn hsz
        rcases hd : dupB l0_0 i with _ | _
        · have HD := Aside0.mk hd
          clear hd
          go_wp2_with fail
          refine (feature_named.calls _ _ _ hc.out).mono ?_
          rintro e w2 ⟨rfl, hb⟩
          obtain ⟨g, hm, hs⟩ := HM.out
          have hm2 := hm.below hb
          have hkey := keyOf_string_mk Tryd.underlying9 HS.out
          have hlk := hm2.look_bool (string_keyed Tryd.underlying9) Tryd.underlying122 Tryd.underlying4 (by kernel_rfl) hkey false (.inr ⟨by rw [hs]; simp only [dupB] at HD; rw [HD.out]; rfl, rfl⟩)
          obtain ⟨w3, hup, hm3, hg3⟩ := hm2.put (string_keyed Tryd.underlying9) Tryd.underlying122 (by unfold maxLen; omega) hkey (plainElem_bool Tryd.underlying4 true)
          have M3 := Aside0.mk hm3
          have G3 := Aside0.mk hg3
          have S2 := Aside0.mk hs
          have B2 := Aside0.mk hb
          clear hm hm2 hkey hm3 hg3 hs hb
          go_wp2
          go_roundw
          case rel => 
            refine ⟨i + 1, by omega, by go_num, ⟨?_⟩, ⟨?_⟩, ⟨_, M3.out, S2.out.put hlt⟩, ⟨?_⟩⟩
            · rw [hfs.out, HF.out, HN.out, HD.out]; rfl
            · have z1 := HB.out.size
              have z2 := (Array.getElem?_eq_some_iff.1 HK.out).1
              have z3 := B2.out.size
              exact (G3.out.block _ (by omega) (by simp)).trans ((B2.out.block _ z2).trans HK.out)
            · have z1 := HB.out.size
              have z2 := (Array.getElem?_eq_some_iff.1 HK.out).1
              exact (below_step HB.out B2.out).grown G3.out (by have := B2.out.size; omega) (fun k e => by cases e; omega)
          case measure => simp [intOf]; omega
        · have hbad : checkB l0_0 l0_1 = false := by
            have h3 : featsB l0_0 (i + 1) = false := by rw [hfs.out, hd]; simp
            have h4 : featsB l0_0 l0_0.length = false := by
              rcases h5 : featsB l0_0 l0_0.length with _ | _
              · rfl
              · rw [featsB_mono l0_0 (by omega) h5] at h3; cases h3
            simp [checkB, h4]
          rw [hbad] at HQ
          have HD := Aside0.mk hd
          clear hbad hd
          go_wp2_with fail
          refine (feature_named.calls _ _ _ hc.out).mono ?_
          rintro e w2 ⟨rfl, hb⟩
          obtain ⟨g, hm, hs⟩ := HM.out
          have hm2 := hm.below hb
          have hkey := keyOf_string_mk Tryd.underlying9 HS.out
          have hlk := hm2.look_bool (string_keyed Tryd.underlying9) Tryd.underlying122 Tryd.underlying4 (by kernel_rfl) hkey true (.inl (by rw [hs]; simp only [dupB] at HD; rw [HD.out]; rfl))
          have B2 := Aside0.mk hb
          clear hm hm2 hkey hs hb
          go_wp2
          go_ret
          exact ⟨by rw [HQ.out]; rfl, below_step HB.out B2.out⟩
    · obtain rfl : i = l0_0.length := by omega
      obtain ⟨wo, hwo⟩ : ∃ wo : World, wo = wr := ⟨_, rfl⟩
      subst hwo
      have hk1 := blk_alloc HK.out (.map #[] 0)
      have hcz1 : (wo.alloc (.map #[] 0)).cell? ⟨w.heap.size, 1, none⟩ = some (.slice A0_1 l0_1.length c0_1) := (blk_cell hk1 1).trans rfl
      have K1 := Aside0.mk hk1
      have B1 := Aside0.mk (HB.out.alloc HB.out.size (.map #[] 0))
      have M1 := Aside0.mk (MapFn.made Tryd.prog 21 (plainElem Tryd.prog 4) wo)
      have S1 := Aside0.mk (show SetR (fun _ => none) ((l0_1.take 0).map (·.f0)) from fun s => by simp)
      have Z1 := Aside0.mk (show w.heap.size < wo.heap.size from (Array.getElem?_eq_some_iff.1 HK.out).1)
      clear HM hk1
      go_wp2
      go_loopw [48] (fun v w' => ∃ i : Nat, i ≤ l0_1.length ∧ v = .int .i64 i ∧ Aside0 (lettersB l0_0 l0_1 i = true) ∧ Aside0 (w'.heap[w.heap.size]? = some (.cells #[.slice A0_0 l0_0.length c0_0, .slice A0_1 l0_1.length c0_1] 25 (0, 0))) ∧ Aside0 (∃ g, MapFn Tryd.prog 21 (plainElem Tryd.prog 4) w' wo.heap.size i g ∧ SetR g ((l0_1.take i).map (·.f0))) ∧ Aside0 (Below w.heap.size w w')) (fun v _ => l0_1.length - (intOf v).toNat)
      case atStart => exact ⟨0, by omega, rfl, ⟨rfl⟩, K1, ⟨_, M1.out, S1.out⟩, B1⟩
      case round =>
        clear K1 B1 M1 S1 hcz1
        have HLT := HF
        clear HF HK HB
        obtain ⟨i, hi, rfl, HF, HK, HM, HB⟩ := hrel
        rcases Nat.lt_or_ge i l0_1.length with hlt | hge
        · have p0 : 0 ≤ (i : Int) := by omega
          have q0 : (i : Int) < (l0_1.length : Int) := by omega
          obtain ⟨ad, ea, hx0, hx1, hx2⟩ := at_T91 HR1.out i p0 q0
          cases ea
          replace hx0 := (HB.out.cell (World.block_lt_of_cell? w _ hx0)).trans hx0
          replace hx1 := (HB.out.cell (World.block_lt_of_cell? w _ hx1)).trans hx1
          replace hx2 := (HB.out.cell (World.block_lt_of_cell? w _ hx2)).trans hx2
          rw [Int.toNat_natCast] at hx0 hx1 hx2
          have hfs := Aside0.mk (lettersB_succ l0_0 l0_1 i)
          have HBAD := Aside0.mk (show lettersB l0_0 l0_1 (i + 1) = false → r = 7 from fun h3 => by
            have h4 : lettersB l0_0 l0_1 l0_1.length = false := by
              rcases h5 : lettersB l0_0 l0_1 l0_1.length with _ | _
              · rfl
              · rw [lettersB_mono l0_0 l0_1 (by omega) h5] at h3; cases h3
            rw [HQ.out]
            simp [checkB, h4])
          obtain ⟨x0, hr0⟩ : ∃ x0, (rd_T91 l0_1 i).f0 = x0 := ⟨_, rfl⟩
          obtain ⟨x1, hr1⟩ : ∃ x1, (rd_T91 l0_1 i).f1 = x1 := ⟨_, rfl⟩
          obtain ⟨x2, hr2⟩ : ∃ x2, (rd_T91 l0_1 i).f2 = x2 := ⟨_, rfl⟩
          rw [hr0] at hx0
          rw [hr1] at hx1
          rw [hr2] at hx2
          have hfs2 := hfs.out
          rw [hr0, hr1, hr2, HF.out, Bool.true_and] at hfs2
          have HFS := Aside0.mk hfs2
          have R0 := Aside0.mk hr0
          clear hr0 hr1 hr2 hfs hfs2
          have hk2 := blk_alloc HK.out (.cells #[.int .i32 x0, .int .u32 x1, .int .u32 x2] 91)
          have hcz1 : (wr.alloc (.cells #[.int .i32 x0, .int .u32 x1, .int .u32 x2] 91)).cell? ⟨w.heap.size, 1, none⟩ = some (.slice (some ad) l0_1.length c0_1) := (blk_cell hk2 1).trans rfl
          have hcz0 : (wr.alloc (.cells #[.int .i32 x0, .int .u32 x1, .int .u32 x2] 91)).cell? ⟨w.heap.size, 0, none⟩ = some (.slice A0_0 l0_0.length c0_0) := (blk_cell hk2 0).trans rfl
          have K2 := Aside0.mk hk2
          have HB2 := Aside0.mk (HB.out.alloc HB.out.size (.cells #[.int .i32 x0, .int .u32 x1, .int .u32 x2] 91))
          clear hk2
          rcases hn : letterB x0 with _ | _
          · have HC := Aside0.mk (show feature_lettered.f 3 x0 = some false by rw [lettered_eq, hn])
            have H7 := Aside0.mk (HBAD.out (by rw [HFS.out, hn]; rfl))
            clear hn
            go_wp2_with (go_at_call 88; refine (feature_lettered.calls 3 _ _ _ HC.out).mono ?_; rintro e w2 ⟨rfl, ⟨nd, rfl⟩⟩)
            go_ret
            exact ⟨by rw [H7.out]; rfl, pw_below_drewN HB2.out _⟩
          · have HN := Aside0.mk hn
            have HC := Aside0.mk (show feature_lettered.f 3 x0 = some true by rw [lettered_eq, hn])
            clear hn
            obtain ⟨g, hm, hs⟩ := HM.out
            have hm2 := hm.alloc (.cells #[.int .i32 x0, .int .u32 x1, .int .u32 x2] 91)
            have hkey := keyOf_int_mk Tryd.underlying21 (letter_wf HN.out)
            by_cases hd : x0 ∈ (l0_1.take i).map (·.f0)
            · have hlk := fun m => (hm2.drewN m).look_bool (int_keyed Tryd.underlying21) Tryd.underlying124 Tryd.underlying4 (by kernel_rfl) hkey true (.inl (by rw [hs, if_pos hd]))
              have H7 := Aside0.mk (HBAD.out (by rw [HFS.out, decide_eq_true hd]; simp))
              clear hm hs hm2 hkey hd
              go_wp2_with (go_at_call 88; refine (feature_lettered.calls 3 _ _ _ HC.out).mono ?_; rintro e w2 ⟨rfl, ⟨nd, rfl⟩⟩)
              go_ret
              exact ⟨by rw [H7.out]; rfl, pw_below_drewN HB2.out _⟩
            · have hlk := fun m => (hm2.drewN m).look_bool (int_keyed Tryd.underlying21) Tryd.underlying124 Tryd.underlying4 (by kernel_rfl) hkey false (.inr ⟨by rw [hs, if_neg hd], rfl⟩)
              have HD := Aside0.mk hd
              have M2 := Aside0.mk hm2
              have S2 := Aside0.mk hs
              have KY := Aside0.mk hkey
              clear hm hs hm2 hkey hd
              rcases hw : withinB l0_0 x1 x2 with _ | _
              · have HW := Aside0.mk (show feature_within.f l0_0 l0_1 x1 x2 = some false by rw [within_eq, hw])
                have H7 := Aside0.mk (HBAD.out (by rw [HFS.out, hw]; simp))
                clear hw
                go_wp2_with (first | (go_at_call 88; refine (feature_lettered.calls 3 _ _ _ HC.out).mono ?_; rintro e w2 ⟨rfl, ⟨nd, rfl⟩⟩) | (go_at_call 83; refine (feature_within.calls _ _ l0_0 _ _ l0_1 x1 x2 false _ ?s1 HC0.out ?s2 HC1.out HW.out).mono ?_; (case s1 => exact Kd.C_below HR0.out (pw_below_drewN HB2.out _)); (case s2 => exact Kd.C_below HR1.out (pw_below_drewN HB2.out _)); rintro e w3 ⟨rfl, hb⟩))
                go_ret
                exact ⟨by rw [H7.out]; rfl, below_step (pw_below_drewN HB2.out _) hb⟩
              · have HW := Aside0.mk (show feature_within.f l0_0 l0_1 x1 x2 = some true by rw [within_eq, hw])
                have HT := Aside0.mk hw
                clear hw
                go_wp2_with (first | (go_at_call 88; refine (feature_lettered.calls 3 _ _ _ HC.out).mono ?_; rintro e w2 ⟨rfl, ⟨nd, rfl⟩⟩) | (fail))
                refine (feature_within.calls _ _ l0_0 _ _ l0_1 x1 x2 true _ ?s1 HC0.out ?s2 HC1.out HW.out).mono ?_
                case s1 => exact Kd.C_below HR0.out (pw_below_drewN HB2.out _)
                case s2 => exact Kd.C_below HR1.out (pw_below_drewN HB2.out _)
                rintro e w3 ⟨rfl, hb⟩
                have hm3 := (M2.out.drewN nd).below hb
                obtain ⟨w4, hup, hm4, hg4⟩ := hm3.put (int_keyed Tryd.underlying21) Tryd.underlying124 (by unfold maxLen; omega) KY.out (plainElem_bool Tryd.underlying4 true)
                have hbx : ((wr.alloc (.cells #[.int .i32 x0, .int .u32 x1, .int .u32 x2] 91)).drewN nd).heap[wr.heap.size]? = some (.cells #[.int .i32 x0, .int .u32 x1, .int .u32 x2] 91 (0, 0)) := blk_drewN (by simpa using heap_alloc_new wr _) nd
                have hbx3 := blk_below hbx hb
                have hcx : w3.cell? ⟨wr.heap.size, 0, none⟩ = some (.int .i32 x0) := (blk_cell hbx3 0).trans rfl
                have hk3 := blk_below (blk_drewN K2.out nd) hb
                have hne : w.heap.size ≠ wo.heap.size := Nat.ne_of_lt Z1.out
                have hk4 := blk_grown hk3 hg4 (by simpa using hne)
                have hb4 := (below_step (pw_below_drewN HB2.out nd) hb).grown hg4 (by have := (below_step (pw_below_drewN HB2.out nd) hb).size; omega) (fun k e => by cases e; exact Nat.le_of_lt Z1.out)
                have M4 := Aside0.mk hm4
                have K4 := Aside0.mk hk4
                have B4 := Aside0.mk hb4
                clear hm3 hm4 hg4 hbx hbx3 hk3 hk4 hb4 hb
                go_wp2
                go_roundw
                case rel =>
                  refine ⟨i + 1, by omega, by go_num, ⟨?_⟩, K4, ⟨_, M4.out, ?_⟩, B4⟩
                  · rw [HFS.out, HN.out, HT.out]
                    simp only [Bool.true_and, Bool.and_true, Bool.not_eq_true', decide_eq_false_iff_not]
                    exact HD.out
                  · rw [← R0.out]
                    exact S2.out.put hlt
                case measure => simp [intOf]; omega
        · obtain rfl : i = l0_1.length := by omega
          have H0 := Aside0.mk (show r = 0 by
            rw [HQ.out]
            simp only [checkB, HF.out, HLT.out]
            rw [if_pos]
            simp; omega)
          go_wp2
          go_ret
          exact ⟨by rw [H0.out]; rfl, HB.out⟩
end Go.Proofs.YtjnikjnkmcbjfabDoor.X
