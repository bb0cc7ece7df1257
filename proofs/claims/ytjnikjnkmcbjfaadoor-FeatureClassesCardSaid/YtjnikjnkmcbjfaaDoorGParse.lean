/- feature.Parse, walked: a class's text read. -/
import Derived.Test.YtjnikjnkmcbjfaaDoorGOf
import Derived.Test.YtjnikjnkmcbjfaaDoorShelf0
import Derived.Test.YtjnikjnkmcbjfaaDoorT1
import Derived.Test.YtjnikjnkmcbjfaaDoorX7
import Derived.IntWalk
import Derived.StringKeys
namespace Go.Proofs.YtjnikjnkmcbjfaaDoor.X
open Go.RowKit Go.Maps Go.WideMaps Go.Proofs.YtjnikjnkmcbjfaaDoorW.PrintWords Go.Proofs.YtjnikjnkmcbjfaaDoorW.PrintLast Go.Proofs.YtjnikjnkmcbjfaaDoorW.PrintMore
/-- 'v, ok := m[k]' of a map of bools. -/
theorem MapFn.look_ok_bool {P : Program} {k t e : TypeId} {w : World} {b n : Nat} {g : Lit → Option (DataW Unit)} (h : MapFn P k (plainElem P e) w b n g) (K : Keyed P k) (ht : P.underlying t = some (.map k e)) (he : P.underlying e = some .bool)
    (hz : (zeroValue e).run P w = .ok (.bool false) w) {key : Value} {kl : Lit} (hkey : keyOf P k key = some kl) (x y : Bool) (hx : (g kl).getD (.lit (.bool false)) = .lit (.bool x)) (hy : (g kl).isSome = y) :
    (Instr.lookup t (.map (some b)) key true).run P w = .ok (.tuple #[.bool x, .bool y]) w := by
  obtain ⟨v, ps, hrun, hv⟩ := h.look_ok K ht hz (plainElem_bool he false) hkey
  obtain ⟨z, rfl, hz⟩ := plainElem_bool_inv he hv
  simp only [Prod.mk.injEq] at hz
  rw [hrun, hy]
  rw [hx] at hz
  simp only [DataW.lit.injEq, Lit.bool.injEq] at hz
  rw [hz.1]
theorem index_l0 (F : List ByteArray) (s : ByteArray) (hF : F.length ≤ 1000) : ∀ (d i : Nat), F.length - i = d → i ≤ F.length → (∀ j, j < i → (rdOf ByteArray.empty F (j : Int)).data.toList ≠ s.data.toList) → Ev (fun k => slices_Index_string_string.l0 k F s (F.length : Int) (i : Int)) (idxS F s.data.toList) := by
  intro d
  induction d with
  | zero =>
    intro i hd hi hn
    obtain rfl : i = F.length := by omega
    refine Ev.step (fun k => by rw [slices_Index_string_string.l0]) ?_
    simp only [if_neg (show ¬ ((F.length : Int) < (F.length : Int)) by omega)]
    rcases idxS_cases F s.data.toList with ⟨he, _⟩ | ⟨j, hj, _, h2, _⟩
    · rw [he]
      exact Ev.now _
    · exact absurd h2 (hn j hj)
  | succ d ih =>
    intro i hd hi hn
    refine Ev.step (fun k => by rw [slices_Index_string_string.l0]) ?_
    simp only [if_pos (show (i : Int) < (F.length : Int) by omega), if_pos (show 0 ≤ (i : Int) by omega), ByteArray.toList_eq]
    by_cases he : s.data.toList = (rdOf ByteArray.empty F (i : Int)).data.toList
    · simp only [if_pos he]
      rcases idxS_cases F s.data.toList with ⟨_, h1⟩ | ⟨j, hj, h1, h2, h3⟩
      · exact absurd he.symm (h1 i (by omega))
      · rw [h1]
        rcases Nat.lt_trichotomy i j with h4 | h4 | h4
        · exact absurd he.symm (h3 i h4)
        · rw [h4]
          exact Ev.now _
        · exact absurd h2 (hn j h4)
    · simp only [if_neg he]
      have hw : wrap64 ((i : Int) + 1) = ((i + 1 : Nat) : Int) := by rw [IntWalk.wrap64_in _ (by omega)]; omega
      rw [hw]
      refine ih (i + 1) (by omega) (by omega) (fun j hj => ?_)
      rcases Nat.lt_or_ge j i with h | h
      · exact hn j h
      · obtain rfl : j = i := by omega
        exact fun e => he e.symm
theorem index_ev (F : List ByteArray) (s : ByteArray) (hF : F.length ≤ 1000) : Ev (fun k => slices_Index_string_string.f k F s) (idxS F s.data.toList) :=
  index_l0 F s hF F.length 0 (by omega) (by omega) (fun j hj => absurd hj (Nat.not_lt_zero _))
/-- slices.Index of the features, wherever draws have gone by. -/
theorem index_any (A : Option Addr) (c : Nat) (F : List ByteArray) (s : ByteArray) (v : Int) (W : World) (hF : F.length ≤ 1000) (hr : Kd.C Kd.string W A F.length F) (hc : F.length ≤ c) (hv : idxS F s.data.toList = v) (n : Nat) :
    Calls Tryd.prog 85 #[.slice A F.length c, .string s] (W.drewN n) fun e w' => e = .returned (.int .i64 v) ∧ ∃ m, w' = W.drewN m := by
  obtain ⟨k, hk⟩ := (index_ev F s hF).rounds
  refine (slices_Index_string_string.calls k A c F s v (W.drewN n) (Kd.C_drewN hr n) hc (hv ▸ hk)).mono ?_
  rintro e w' ⟨he, ⟨m, hm⟩⟩
  exact ⟨he, n + m, by rw [hm, World.drewN_drewN]⟩
def abcS : ByteArray := ⟨#[97, 98, 99, 100, 101, 102, 103, 104, 105, 106, 107, 108, 109, 110, 111, 112, 113, 114, 115, 116, 117, 118, 119, 120, 121, 122]⟩
theorem abc_has (b : UInt8) : abcS.data.toList.contains b = abcB b := by
  have : ∀ b : Fin 256, abcS.data.toList.contains (UInt8.ofFin b) = decide (97 ≤ b.val ∧ b.val ≤ 122) := by decide +kernel
  have h := this b.toFin
  simpa [abcB] using h
theorem dropWhile_len {α : Type} (p : α → Bool) (l : List α) : l.dropWhile p = l.drop (l.takeWhile p).length := by
  induction l with
  | nil => rfl
  | cons a l ih =>
    rw [List.dropWhile_cons, List.takeWhile_cons]
    split
    · rw [ih]; rfl
    · rfl
theorem trim_left (s : ByteArray) (w : World) :
    Calls Tryd.prog 84 #[.string s, .string abcS] w fun e w' => e = .returned (.string ⟨(s.data.toList.drop (s.data.toList.takeWhile abcB).length).toArray⟩) ∧ Below w.heap.size w w' := by
  have h := Any.strings_TrimLeft_laid Tryd.lays161 (by kernel_rfl) s abcS w (by decide) (ascii_of_all (by decide))
  have e : Lib.trimLeftS s.data.toList abcS.data.toList = s.data.toList.drop (s.data.toList.takeWhile abcB).length := by
    unfold Lib.trimLeftS
    simp only [abc_has]
    exact dropWhile_len _ _
  rw [e] at h
  exact h
def feature_Parse.f (l0_0 : List ByteArray) (l0_1 : List S53) (a1 : ByteArray) : Option (Int × Int × Int × Int) := some (parseV l0_0 l0_1 a1)
theorem signs_made (t k e : TypeId) (hk : Tryd.prog.underlying k = some (.int .i32)) (he : Tryd.prog.underlying e = some .bool) (ht : Tryd.prog.underlying t = some (.map k e)) (w : World) :
    ∃ w1 w2 g, (Instr.mapUpdate t (.map (some w.heap.size)) (.int .i32 43) (.bool true)).run Tryd.prog (w.alloc (.map #[] 0)) = .ok () w1 ∧ (Instr.mapUpdate t (.map (some w.heap.size)) (.int .i32 45) (.bool false)).run Tryd.prog w1 = .ok () w2 ∧
      MapFn Tryd.prog k (plainElem Tryd.prog e) w2 w.heap.size 2 g ∧ (∀ r : Int, g (.int .i32 r) = if r = 45 then some (.lit (.bool false)) else if r = 43 then some (.lit (.bool true)) else none) ∧ (w.alloc (.map #[] 0)).grownBy w1 (some w.heap.size) ∧ w1.grownBy w2 (some w.heap.size) := by
  obtain ⟨w1, h1, m1, g1⟩ := (MapFn.made Tryd.prog k (plainElem Tryd.prog e) w).put (int_keyed hk) ht (by unfold maxLen; omega) (keyOf_int_mk hk (a := 43) (by decide)) (plainElem_bool he true)
  obtain ⟨w2, h2, m2, g2⟩ := m1.put (int_keyed hk) ht (by unfold maxLen; omega) (keyOf_int_mk hk (a := 45) (by decide)) (plainElem_bool he false)
  exact ⟨w1, w2, _, h1, h2, m2, fun r => by by_cases e1 : r = 45 <;> by_cases e2 : r = 43 <;> simp [e1, e2], g1, g2⟩
set_option maxHeartbeats 4000000 in
set_option maxRecDepth 100000 in
theorem feature_Parse.calls (A0_0 : Option Addr) (c0_0 : Nat) (l0_0 : List ByteArray) (A0_1 : Option Addr) (c0_1 : Nat) (l0_1 : List S53) (a1 : ByteArray) (r1 : Int) (r2 : Int) (r3 : Int) (r4 : Int) (w : World) (hr0_0 : Kd.C Kd.string w A0_0 l0_0.length l0_0) (hc0_0 : l0_0.length ≤ c0_0) (hr0_1 : Kd.C k53 w A0_1 l0_1.length l0_1) (hc0_1 : l0_1.length ≤ c0_1) (h : feature_Parse.f l0_0 l0_1 a1 = some (r1, r2, r3, r4)) :
    Calls Tryd.prog 45 #[.agg #[.slice A0_0 l0_0.length c0_0, .slice A0_1 l0_1.length c0_1], .string a1] w fun e w' => e = .returned (.tuple #[.int .u32 r1, .int .u32 r2, .int .i64 r3, .int .i64 r4]) ∧ Below w.heap.size w w' := by
  have HR0 := Aside0.mk hr0_0
  have HC0 := Aside0.mk hc0_0
  have HR1 := Aside0.mk hr0_1
  have HC1 := Aside0.mk hc0_1
  have BW := Aside0.mk (below_alloc (Below.refl _ w) (.cells #[.slice A0_0 l0_0.length c0_0, .slice A0_1 l0_1.length c0_1] 25))
  have KA := Aside0.mk (blk_new w (.cells #[.slice A0_0 l0_0.length c0_0, .slice A0_1 l0_1.length c0_1] 25))
  clear hr0_0 hc0_0 hr0_1 hc0_1
  have h := Option.some.inj h
  unfold parseV at h
  rcases hck : checkB l0_0 l0_1 with _ | _
  · rw [hck] at h
    simp only [Bool.false_eq_true, if_false, Prod.mk.injEq] at h
    obtain ⟨rfl, rfl, rfl, rfl⟩ := h
    have CC := Aside0.mk (fun (W : World) (hb : Below w.heap.size w W) => feature_Check.calls _ _ l0_0 _ _ l0_1 7 W (Kd.C_below HR0.out hb) HC0.out (Kd.C_below HR1.out hb) HC1.out (by simp [feature_Check.f, hck]))
    clear hck
    go_enter Tryd.func45, Tryd.ntmps45
    go_wp2_with fail
    refine (CC.out _ BW.out).mono ?_
    rintro e w2 ⟨rfl, hb⟩
    have B2 := Aside0.mk (below_step BW.out hb)
    clear hb
    go_wp2
    refine bodyPost_ret (v := .tuple #[.int .u32 0, .int .u32 0, .int .i64 0, .int .i64 7]) (by simp [results, Tryd.results45, go_sem]) rfl ⟨rfl, B2.out⟩
  · have CC := Aside0.mk (fun (W : World) (hb : Below w.heap.size w W) => feature_Check.calls _ _ l0_0 _ _ l0_1 0 W (Kd.C_below HR0.out hb) HC0.out (Kd.C_below HR1.out hb) HC1.out (by simp [feature_Check.f, hck]))
    have GD := Aside0.mk hck
    rw [hck, if_pos rfl] at h
    clear hck
    rcases Nat.lt_or_ge 65536 a1.size with hsz | hsz
    · rw [if_pos hsz] at h
      simp only [Prod.mk.injEq] at h
      obtain ⟨rfl, rfl, rfl, rfl⟩ := h
      have b0 : decide (65536 < (a1.size : Int)) = true := decide_eq_true (by omega)
      have b1 : decide (65536 < a1.size) = true := decide_eq_true hsz
      clear hsz
      go_enter Tryd.func45, Tryd.ntmps45
      go_wp2_with fail
      refine (CC.out _ BW.out).mono ?_
      rintro e w2 ⟨rfl, hb⟩
      have B2 := Aside0.mk (below_step BW.out hb)
      clear hb
      go_wp2
      refine bodyPost_ret (v := .tuple #[.int .u32 0, .int .u32 0, .int .i64 0, .int .i64 3]) (by simp [results, Tryd.results45, go_sem]) rfl ⟨rfl, B2.out⟩
    · rw [if_neg (by omega)] at h
      have HQ := Aside0.mk h
      clear h
      have b0 : decide (65536 < (a1.size : Int)) = false := decide_eq_false (by omega)
      have b1 : decide (65536 < a1.size) = false := decide_eq_false (by omega)
      have hF : l0_0.length ≤ 24 := (check_feats GD.out).1
      have hmm := @run_makeMap Tryd.prog
      go_enter Tryd.func45, Tryd.ntmps45
      go_wp2_with fail
      refine (CC.out _ BW.out).mono ?_
      rintro e w2 ⟨rfl, hb⟩
      have B2 := Aside0.mk (below_step BW.out hb)
      have K2 := Aside0.mk (blk_below KA.out hb)
      clear hb
      obtain ⟨w3, w4, g, u3, u4, hm4, hg, g3, g4⟩ := signs_made 89 21 4 Tryd.underlying21 Tryd.underlying4 Tryd.underlying89 w2
      have ne0 : w.heap.size ≠ w2.heap.size := Nat.ne_of_lt (blk_lt K2.out)
      have K4 := Aside0.mk (blk_grown (blk_grown (blk_alloc K2.out (.map #[] 0)) g3 (by simpa using ne0)) g4 (by simpa using ne0))
      have B3 := ((below_alloc B2.out (.map #[] 0)).grown g3 (below_alloc B2.out (.map #[] 0)).size (fun k e => by cases e; exact B2.out.size))
      have B4 := Aside0.mk (B3.grown g4 B3.size (fun k e => by cases e; exact B2.out.size))
      have M4 := Aside0.mk hm4
      have GG := Aside0.mk hg
      clear hm4 hg g3 g4 B3 ne0
      go_wp2
      clear u3 u4
      go_loopw [4, 5, 6] (fun vp vm va w' => ∃ (n k : Nat) (p m : Int), n ≤ a1.size ∧ vp = .int .u32 p ∧ vm = .int .u32 m ∧ va = .int .i64 n ∧ Aside0 (a1.size < n + k) ∧ Aside0 (parseL l0_0 k (a1.data.toList.drop n) n p m = (r1, r2, r3, r4)) ∧ Aside0 (MapFn Tryd.prog 21 (plainElem Tryd.prog 4) w' w2.heap.size 2 g) ∧ Aside0 (w'.heap[w.heap.size]? = some (.cells #[.slice A0_0 l0_0.length c0_0, .slice A0_1 l0_1.length c0_1] 25 (0, 0))) ∧ Aside0 (Below w.heap.size w w')) (fun _ _ va _ => a1.size - (intOf va).toNat)
      case atStart => exact ⟨0, a1.size + 1, 0, 0, by omega, rfl, rfl, rfl, ⟨by omega⟩, HQ, M4, K4, B4⟩
      case round =>
        clear M4 K4 B4
        obtain ⟨n, k, p, m, hn, rfl, rfl, rfl, HK, HP, HM, HA, HB⟩ := hrel
        rcases Nat.lt_or_ge n a1.size with hlt | hge
        · have hk0 := HA.out
          have k0 : wr.cell? ⟨w.heap.size, 0, none⟩ = some (.slice A0_0 l0_0.length c0_0) := (blk_cell hk0 0).trans rfl
          clear hk0
          obtain ⟨c, hc⟩ : ∃ c, a1[n]'hlt = c := ⟨_, rfl⟩
          have hl2 : n < a1.data.toList.length := by rw [Array.length_toList]; exact hlt
          have hdr : a1.data.toList.drop n = c :: a1.data.toList.drop (n + 1) := by rw [List.drop_eq_getElem_cons hl2, ← hc]; rfl
          obtain ⟨t, ht⟩ : ∃ t, a1.data.toList.drop (n + 1) = t := ⟨_, rfl⟩
          obtain ⟨k, rfl⟩ : ∃ q, k = q + 1 := ⟨k - 1, by have := HK.out; omega⟩
          have hp := HP.out
          rw [hdr, ht, parseL] at hp
          have hcl : c.toNat < 256 := c.toNat_lt
          have hw32 : wrap32 ((a1[n]'hlt).toNat : Int) = (c.toNat : Int) := by rw [hc]; unfold wrap32; omega
          have htl : t.length = a1.size - (n + 1) := by rw [← ht, List.length_drop, Array.length_toList]; rfl
          have htk : (t.takeWhile abcB).length ≤ t.length := (List.takeWhile_sublist _).length_le
          obtain ⟨E, hE⟩ : ∃ E, E = n + 1 + (t.takeWhile abcB).length := ⟨_, rfl⟩
          have hE1 : n + 1 ≤ E := by omega
          have hE2 : E ≤ a1.size := by omega
          have hse : (a1.extract (n + 1) a1.size).data.toList = t := by
            rw [ByteArray.data_extract, Array.toList_extract, List.extract_eq_take_drop, ht]
            exact List.take_of_length_le (by rw [htl]; omega)
          have hsi : (a1.extract (n + 1) E).data.toList = t.takeWhile abcB := by
            rw [ByteArray.data_extract, Array.toList_extract, List.extract_eq_take_drop, ht]
            have : E - (n + 1) = (t.takeWhile abcB).length := by omega
            rw [this]
            exact (List.prefix_iff_eq_take.1 (List.takeWhile_prefix _)).symm
          obtain ⟨R, hR⟩ : ∃ R : ByteArray, R = ⟨(t.drop (t.takeWhile abcB).length).toArray⟩ := ⟨_, rfl⟩
          have hRs : R.size = a1.size - E := by
            rw [hR]
            show (t.drop (t.takeWhile abcB).length).toArray.size = _
            rw [List.size_toArray, List.length_drop]
            omega
          have TL := Aside0.mk (fun W : World => trim_left (a1.extract (n + 1) a1.size) W)
          rw [hse, ← hR] at TL
          have IX := Aside0.mk (fun (W : World) (hb : Below w.heap.size w W) (v : Int) (hv : idxS l0_0 (t.takeWhile abcB) = v) => index_any A0_0 c0_0 l0_0 (a1.extract (n + 1) E) v W (by omega) (Kd.C_below HR0.out hb) HC0.out (by rw [hsi]; exact hv))
          have hkey := keyOf_int_mk (P := Tryd.prog) Tryd.underlying21 (a := (c.toNat : Int)) (WalkArith.wf_i32 (by omega))
          obtain ⟨v, hv⟩ : ∃ v, idxS l0_0 (t.takeWhile abcB) = v := ⟨_, rfl⟩
          have hsub : IntKind.i64.wrap ((a1.size : Int) - (R.size : Int)) = (E : Int) := by rw [IntWalk.i64_in _ (by omega)]; omega
          have hsub2 : wrap64 ((a1.size : Int) - (R.size : Int)) = (E : Int) := by rw [IntWalk.wrap64_in _ (by omega)]; omega
          have hsub3 : (a1.size : Int) - (R.size : Int) = (E : Int) := by omega
          rw [hv] at hp
          have HP2 := Aside0.mk hp
          have HV := Aside0.mk hv
          have HT := Aside0.mk ht
          have HE := Aside0.mk hE
          have HTL := Aside0.mk htl
          have HTK := Aside0.mk htk
          have HRS := Aside0.mk hRs
          have HC := Aside0.mk hc
          have HKY := Aside0.mk hkey
          have HW := Aside0.mk hw32
          clear hp hv ht hE htl htk hRs hse hsi hR hdr hl2 hcl HP hkey hsub hsub2 hsub3 hc
          by_cases h43 : c.toNat = 43
          · have hlk : (Instr.lookup 89 (.map (some w2.heap.size)) (.int .i32 (wrap32 ((a1[n]'hlt).toNat : Int))) true).run Tryd.prog wr = .ok (.tuple #[.bool true, .bool true]) wr := by
              rw [HW.out]
              exact HM.out.look_ok_bool (int_keyed Tryd.underlying21) Tryd.underlying89 Tryd.underlying4 (by kernel_rfl) HKY.out true true (by rw [GG.out, h43]; rfl) (by rw [GG.out, h43]; rfl)
            have H43 := Aside0.mk h43
            clear h43 hw32
            go_wp2_with fail
            refine (TL.out _).mono ?_
            rintro e w5 ⟨rfl, hb⟩
            have K5 := Aside0.mk (blk_below HA.out hb)
            have B5 := Aside0.mk (below_step HB.out hb)
            have M5 := Aside0.mk (HM.out.below hb)
            have k0 : w5.cell? ⟨w.heap.size, 0, none⟩ = some (.slice A0_0 l0_0.length c0_0) := (blk_cell K5.out 0).trans rfl
            clear hb
            have IQ := Aside0.mk (IX.out w5 B5.out v HV.out)
            have q1 : (0 : Int) ≤ (n : Int) + 1 := by omega
            have q2 : (n : Int) + 1 ≤ (E : Int) := by omega
            have q3 : (E : Int) ≤ (a1.size : Int) := by omega
            have q4 : (a1.size : Int) - (R.size : Int) = (E : Int) := by have := HRS.out; omega
            have q5 : IntKind.i64.wrap ((n : Int) + 1) = (n : Int) + 1 := IntWalk.i64_in _ (by omega)
            have q6 : IntKind.i64.wrap (E : Int) = (E : Int) := IntWalk.i64_in _ (by omega)
            go_wp2
            go_quiet ((go_at_call 85; exact IQ.out _))
            clear q1 q2 q3 q5 q6
            rcases idxS_cases l0_0 (t.takeWhile abcB) with ⟨he, -⟩ | ⟨i, hi, he, -, -⟩
            · obtain rfl : v = -1 := HV.out.symm.trans he
              clear he
              have hp := HP2.out
              rw [if_neg (by rintro ⟨-, h, -⟩; omega)] at hp
              simp only [Prod.mk.injEq] at hp
              obtain ⟨rfl, rfl, rfl, rfl⟩ := hp
              go_wp2
              refine bodyPost_ret (v := .tuple #[.int .u32 0, .int .u32 0, .int .i64 n, .int .i64 20]) (by simp [results, Tryd.results45, go_sem]) rfl ⟨?_, ?_⟩
              · rfl
              · exact pw_below_drewN B5.out _
            · obtain rfl : v = (i : Int) := HV.out.symm.trans he
              clear he
              have e1 : (Go.bits .and .u32 (Go.bits .or .u32 p m / 2 ^ i) 1 == 1) = bitB (Go.bits .or .u32 p m) (i : Int) := by unfold bitB; rw [← shr_small (k := .u32) (x := Go.bits .or .u32 p m) (y := (i : Int)) rfl (show (i : Int) ≤ 32 by omega)]; rfl
              rcases hbt : bitB (Go.bits .or .u32 p m) (i : Int) with _ | _
              · rw [hbt] at e1
                have hp := HP2.out
                rw [if_pos ⟨Or.inl (UInt8.toNat_inj.1 H43.out), by omega, hbt⟩] at hp
                obtain ⟨sh, hsh⟩ : ∃ sh, shl .u32 1 (i : Int) = sh := ⟨_, rfl⟩
                have hs2 : IntKind.u32.wrap (1 * 2 ^ i) = sh := shl_small (k := .u32) (x := 1) (y := (i : Int)) hsh (show (i : Int) ≤ 32 by omega)
                have hs3 : IntKind.u32.wrap (2 ^ i) = sh := by rw [← hs2, Int.one_mul]
                rw [if_pos (show c = 43 from UInt8.toNat_inj.1 H43.out), hsh] at hp
                have HP3 := Aside0.mk hp
                clear hp hbt hsh
                go_wp2
                go_roundw
                case rel =>
                  refine ⟨E, k, Go.bits .or .u32 p sh, m, hE2, rfl, rfl, rfl, ⟨by have := HK.out; omega⟩, ⟨?_⟩, M5.out.drewN _ |> Aside0.mk, ⟨blk_drewN K5.out _⟩, ⟨pw_below_drewN B5.out _⟩⟩
                  have hd : a1.data.toList.drop E = t.drop (t.takeWhile abcB).length := by rw [HE.out, ← HT.out, List.drop_drop]
                  rw [hd, show (E : Int) = (n : Int) + 1 + (t.takeWhile abcB).length by have := HE.out; omega]
                  exact HP3.out
                case measure => simp [intOf]; omega
              · rw [hbt] at e1
                have hp := HP2.out
                rw [if_neg (by rintro ⟨-, -, h⟩; rw [hbt] at h; cases h)] at hp
                simp only [Prod.mk.injEq] at hp
                obtain ⟨rfl, rfl, rfl, rfl⟩ := hp
                clear hbt
                go_wp2
                refine bodyPost_ret (v := .tuple #[.int .u32 0, .int .u32 0, .int .i64 n, .int .i64 20]) (by simp [results, Tryd.results45, go_sem]) rfl ⟨?_, ?_⟩
                · rfl
                · exact pw_below_drewN B5.out _
          · by_cases h45 : c.toNat = 45
            · clear h43
              have hlk : (Instr.lookup 89 (.map (some w2.heap.size)) (.int .i32 (wrap32 ((a1[n]'hlt).toNat : Int))) true).run Tryd.prog wr = .ok (.tuple #[.bool false, .bool true]) wr := by
                rw [HW.out]
                exact HM.out.look_ok_bool (int_keyed Tryd.underlying21) Tryd.underlying89 Tryd.underlying4 (by kernel_rfl) HKY.out false true (by rw [GG.out, h45]; rfl) (by rw [GG.out, h45]; rfl)
              have H45 := Aside0.mk h45
              clear h45 hw32
              go_wp2_with fail
              refine (TL.out _).mono ?_
              rintro e w5 ⟨rfl, hb⟩
              have K5 := Aside0.mk (blk_below HA.out hb)
              have B5 := Aside0.mk (below_step HB.out hb)
              have M5 := Aside0.mk (HM.out.below hb)
              have k0 : w5.cell? ⟨w.heap.size, 0, none⟩ = some (.slice A0_0 l0_0.length c0_0) := (blk_cell K5.out 0).trans rfl
              clear hb
              have IQ := Aside0.mk (IX.out w5 B5.out v HV.out)
              have q1 : (0 : Int) ≤ (n : Int) + 1 := by omega
              have q2 : (n : Int) + 1 ≤ (E : Int) := by omega
              have q3 : (E : Int) ≤ (a1.size : Int) := by omega
              have q4 : (a1.size : Int) - (R.size : Int) = (E : Int) := by have := HRS.out; omega
              have q5 : IntKind.i64.wrap ((n : Int) + 1) = (n : Int) + 1 := IntWalk.i64_in _ (by omega)
              have q6 : IntKind.i64.wrap (E : Int) = (E : Int) := IntWalk.i64_in _ (by omega)
              go_wp2
              go_quiet ((go_at_call 85; exact IQ.out _))
              clear q1 q2 q3 q5 q6
              rcases idxS_cases l0_0 (t.takeWhile abcB) with ⟨he, -⟩ | ⟨i, hi, he, -, -⟩
              · obtain rfl : v = -1 := HV.out.symm.trans he
                clear he
                have hp := HP2.out
                rw [if_neg (by rintro ⟨-, h, -⟩; omega)] at hp
                simp only [Prod.mk.injEq] at hp
                obtain ⟨rfl, rfl, rfl, rfl⟩ := hp
                go_wp2
                refine bodyPost_ret (v := .tuple #[.int .u32 0, .int .u32 0, .int .i64 n, .int .i64 20]) (by simp [results, Tryd.results45, go_sem]) rfl ⟨?_, ?_⟩
                · rfl
                · exact pw_below_drewN B5.out _
              · obtain rfl : v = (i : Int) := HV.out.symm.trans he
                clear he
                have e1 : (Go.bits .and .u32 (Go.bits .or .u32 p m / 2 ^ i) 1 == 1) = bitB (Go.bits .or .u32 p m) (i : Int) := by unfold bitB; rw [← shr_small (k := .u32) (x := Go.bits .or .u32 p m) (y := (i : Int)) rfl (show (i : Int) ≤ 32 by omega)]; rfl
                rcases hbt : bitB (Go.bits .or .u32 p m) (i : Int) with _ | _
                · rw [hbt] at e1
                  have hp := HP2.out
                  rw [if_pos ⟨Or.inr (UInt8.toNat_inj.1 H45.out), by omega, hbt⟩] at hp
                  obtain ⟨sh, hsh⟩ : ∃ sh, shl .u32 1 (i : Int) = sh := ⟨_, rfl⟩
                  have hs2 : IntKind.u32.wrap (1 * 2 ^ i) = sh := shl_small (k := .u32) (x := 1) (y := (i : Int)) hsh (show (i : Int) ≤ 32 by omega)
                  have hs3 : IntKind.u32.wrap (2 ^ i) = sh := by rw [← hs2, Int.one_mul]
                  rw [if_neg (show ¬ c = 43 from fun e => by have := H45.out; rw [e] at this; exact absurd this (by decide)), hsh] at hp
                  have HP3 := Aside0.mk hp
                  clear hp hbt hsh
                  go_wp2
                  go_roundw
                  case rel =>
                    refine ⟨E, k, p, Go.bits .or .u32 m sh, hE2, rfl, rfl, rfl, ⟨by have := HK.out; omega⟩, ⟨?_⟩, M5.out.drewN _ |> Aside0.mk, ⟨blk_drewN K5.out _⟩, ⟨pw_below_drewN B5.out _⟩⟩
                    have hd : a1.data.toList.drop E = t.drop (t.takeWhile abcB).length := by rw [HE.out, ← HT.out, List.drop_drop]
                    rw [hd, show (E : Int) = (n : Int) + 1 + (t.takeWhile abcB).length by have := HE.out; omega]
                    exact HP3.out
                  case measure => simp [intOf]; omega
                · rw [hbt] at e1
                  have hp := HP2.out
                  rw [if_neg (by rintro ⟨-, -, h⟩; rw [hbt] at h; cases h)] at hp
                  simp only [Prod.mk.injEq] at hp
                  obtain ⟨rfl, rfl, rfl, rfl⟩ := hp
                  clear hbt
                  go_wp2
                  refine bodyPost_ret (v := .tuple #[.int .u32 0, .int .u32 0, .int .i64 n, .int .i64 20]) (by simp [results, Tryd.results45, go_sem]) rfl ⟨?_, ?_⟩
                  · rfl
                  · exact pw_below_drewN B5.out _
            · have hlk : (Instr.lookup 89 (.map (some w2.heap.size)) (.int .i32 (wrap32 ((a1[n]'hlt).toNat : Int))) true).run Tryd.prog wr = .ok (.tuple #[.bool false, .bool false]) wr := by
                rw [HW.out]
                exact HM.out.look_ok_bool (int_keyed Tryd.underlying21) Tryd.underlying89 Tryd.underlying4 (by kernel_rfl) HKY.out false false (by rw [GG.out, if_neg (by omega), if_neg (by omega)]; rfl) (by rw [GG.out, if_neg (by omega), if_neg (by omega)]; rfl)
              have hp := HP2.out
              rw [if_neg (by rintro ⟨h | h, -, -⟩ <;> rw [h] at h43 h45 <;> revert h43 h45 <;> decide)] at hp
              simp only [Prod.mk.injEq] at hp
              obtain ⟨rfl, rfl, rfl, rfl⟩ := hp
              clear h43 h45 hw32
              go_wp2_with fail
              refine (TL.out _).mono ?_
              rintro e w5 ⟨rfl, hb⟩
              have K5 := Aside0.mk (blk_below HA.out hb)
              have B5 := Aside0.mk (below_step HB.out hb)
              have k0 : w5.cell? ⟨w.heap.size, 0, none⟩ = some (.slice A0_0 l0_0.length c0_0) := (blk_cell K5.out 0).trans rfl
              clear hb
              have IQ := Aside0.mk (IX.out w5 B5.out v HV.out)
              have q1 : (0 : Int) ≤ (n : Int) + 1 := by omega
              have q2 : (n : Int) + 1 ≤ (E : Int) := by omega
              have q3 : (E : Int) ≤ (a1.size : Int) := by omega
              have q4 : (a1.size : Int) - (R.size : Int) = (E : Int) := by have := HRS.out; omega
              have q5 : IntKind.i64.wrap ((n : Int) + 1) = (n : Int) + 1 := IntWalk.i64_in _ (by omega)
              have q6 : IntKind.i64.wrap (E : Int) = (E : Int) := IntWalk.i64_in _ (by omega)
              go_wp2
              go_quiet ((go_at_call 85; exact IQ.out _))
              go_wp2
              refine bodyPost_ret (v := .tuple #[.int .u32 0, .int .u32 0, .int .i64 n, .int .i64 20]) (by simp [results, Tryd.results45, go_sem]) rfl ⟨?_, ?_⟩
              · rfl
              · exact pw_below_drewN B5.out _
        · obtain rfl : n = a1.size := by omega
          have hp := HP.out
          obtain ⟨k, rfl⟩ : ∃ q, k = q + 1 := ⟨k - 1, by have := HK.out; omega⟩
          rw [show a1.data.toList.drop a1.size = [] from List.drop_eq_nil_of_le (by rw [Array.length_toList]; exact Nat.le_refl _), parseL] at hp
          simp only [Prod.mk.injEq] at hp
          obtain ⟨rfl, rfl, rfl, rfl⟩ := hp
          go_wp2
          refine bodyPost_ret (v := .tuple #[.int .u32 p, .int .u32 m, .int .i64 0, .int .i64 0]) (by simp [results, Tryd.results45, go_sem]) rfl ⟨rfl, HB.out⟩
end Go.Proofs.YtjnikjnkmcbjfaaDoor.X
