/- FeatureClasses, walked: each call by its contract; all answers are the document's. -/
import Derived.Test.YtjnikjnkmcbjfaaDoorGAlive
import Derived.Test.YtjnikjnkmcbjfaaDoorPSame
import Derived.Test.YtjnikjnkmcbjfaaDoorPRefNear
import Derived.Deep.DeepCutAuto
namespace Go.Proofs.YtjnikjnkmcbjfaaDoor.X
open Go.RowKit Go.Proofs.YtjnikjnkmcbjfaaDoorW.PrintWords Go.Proofs.YtjnikjnkmcbjfaaDoorW.PrintLast Go.Proofs.YtjnikjnkmcbjfaaDoorW.PrintMore
set_option linter.unusedVariables false
set_option linter.unusedSimpArgs false
theorem class_len (F : List ByteArray) (L : List S53) (p m : Int) : (classV F L p m).1.length ≤ 128 := by
  unfold classV
  by_cases hc : checkB F L = true
  · have h := (check_feats hc).2.2
    by_cases hwi : withinB F p m = true
    · rw [if_pos hc, if_pos hwi]
      rw [List.length_map]
      exact Nat.le_trans (List.length_filter_le _ _) h
    · rw [if_pos hc, if_neg hwi]
      exact Nat.zero_le _
  · rw [if_neg hc]
    exact Nat.zero_le _
theorem classes_apart {α : Type} {d : Kd α} {e base : Nat} {w w1 : World} {v : Value} {xs : List α} {row : Option Nat} (h : d.R e w base (fun _ => True) v xs) (hg : w.grownBy w1 row) (hl : ∀ k, row = some k → k < base) : d.R e w1 base (fun _ => True) v xs :=
  Kd.R_mono (Kd.R_move (Kd.R_bound h) (fun k hk => hg.block k hk.2.2.1 (fun he => by have := hl k he.symm; have := hk.2.1; omega))) (fun _ _ => trivial)
def classesT : Bool × List (List Nat × List Nat) := (true, [([], []), ([], []), ([0, 1], [0, 1]), ([2], [2]), ([3], [3]), ([3], [3]), ([4, 5, 3], [3, 4, 5]), ([3, 6], [3, 6]), ([7, 3], [7]), ([8], [8]), ([8], [8]), ([9, 10, 8, 8], [8, 9, 10]), ([8, 11], [8, 11]), ([12, 11], [12]), ([13], [13]), ([13], [13]), ([14, 15, 13], [13, 14, 15]), ([13, 16], [13, 16]), ([17, 13], [17]), ([18], [18]), ([18], [18]), ([19, 20, 18], [18, 19, 20]), ([18, 21], [18, 21]), ([22, 18], [22]), ([23], [23]), ([24, 23, 23], [23, 24]), ([23], [23]), ([26, 25, 23], [23, 26]), ([25, 27, 23], [23, 25, 27]), ([23, 28], [23, 28]), ([29, 27, 0, 1, 2, 3, 4, 5, 6, 7, 8, 9, 10, 11, 12, 13, 14, 15, 16, 17, 18, 19, 20, 21, 22, 23, 24, 25, 26, 27, 28, 29], [29])])
def classesB : List Nat := [0, 0, 3, 7, 15, 15, 63, 127, 255, 511, 511, 2047, 4095, 8191, 16383, 16383, 65535, 131071, 262143, 524287, 524287, 2097151, 4194303, 8388607, 16777215, 33554431, 16777215, 134217727, 268435455, 536870911, 1073741823]
theorem classes_t : rtab .any (opsOf Tryd.f7 16) = classesT := by kernel_rfl
theorem classes_b : waitsOk classesT.2 classesB = true := by kernel_rfl
set_option maxHeartbeats 8000000 in
set_option maxRecDepth 100000 in
theorem featureClasses_any (A0_0 : Option Addr) (c0_0 : Nat) (F : List ByteArray) (A0_1 : Option Addr) (c0_1 : Nat) (L : List S53) (x y p m : Int) (w : World)
    (hw : WfL L) (hF : F.length * 16 ≤ 140737488351232) (hL : L.length * 12 ≤ 140737488351232) (hx : (Lit.int .i32 x).wf = true) (hy : (Lit.int .i32 y).wf = true) (hp : (Lit.int .u32 p).wf = true) (hm : (Lit.int .u32 m).wf = true)
    (hr0_0 : Kd.C Kd.string w A0_0 F.length F) (hc0_0 : F.length ≤ c0_0) (hr0_1 : Kd.C k53 w A0_1 L.length L) (hc0_1 : L.length ≤ c0_1) :
    Calls Tryd.prog 7 #[.agg #[.slice A0_0 F.length c0_0, .slice A0_1 L.length c0_1], .int .i32 x, .int .i32 y, .int .u32 p, .int .u32 m] w fun e w' => e = .returned (.bool true) ∧ Below w.heap.size w w' := by
  obtain ⟨o1, o2, o3, o4, ho⟩ : ∃ o1 o2 o3 o4, ofV F L x = (o1, o2, o3, o4) := ⟨_, _, _, _, rfl⟩
  obtain ⟨b1, b2, hb1⟩ : ∃ b1 b2, hasV F L x p m = (b1, b2) := ⟨_, _, rfl⟩
  obtain ⟨cl, cl2, hcl⟩ : ∃ c1 c2, classV F L p m = (c1, c2) := ⟨_, _, rfl⟩
  obtain ⟨f1, f2, hf⟩ : ∃ f1 f2, farV F L x y = (f1, f2) := ⟨_, _, rfl⟩
  obtain ⟨n1, n2, hn⟩ : ∃ n1 n2, nearV F L x p m = (n1, n2) := ⟨_, _, rfl⟩
  have hlen := class_len F L p m
  rw [hcl] at hlen
  obtain ⟨q6, hq6⟩ := (same_ev cl (Nat.le_trans hlen (by decide))).rounds
  obtain ⟨q7, hq7⟩ := (check_ev F L).rounds
  have SA := Aside0.mk hq6
  have LC := Aside0.mk hlen
  obtain ⟨ce, hce⟩ : ∃ e_ : Int, e_ = if checkB F L = true then 0 else 7 := ⟨_, rfl⟩
  have CE := Aside0.mk (show feature_Check.f F L = some ce by rw [hce]; rfl)
  rw [← hce] at hq7
  have CR := Aside0.mk hq7
  clear hq6 hq7 hlen hce
  obtain ⟨q3, hq3⟩ := (class_ev F L p m).rounds
  obtain ⟨g1, hk1⟩ := (refOf_ev F L x).rounds
  obtain ⟨g2, hk2⟩ := (refHas_ev F L hw x p m (u32_of_wf hp) (u32_of_wf hm)).rounds
  obtain ⟨g3, hk3⟩ := (refClass_ev F L hw p m (u32_of_wf hp) (u32_of_wf hm)).rounds
  obtain ⟨g4, hk4⟩ := (refFar_ev F L hw x y).rounds
  obtain ⟨g5, hk5⟩ := (refNear_ev F L hw x p m (u32_of_wf hp) (u32_of_wf hm)).rounds
  rw [hcl] at hq3 hk3
  rw [ho] at hk1
  rw [hb1] at hk2
  rw [hf] at hk4
  rw [hn] at hk5
  have R1 := Aside0.mk (show feature_Of.f F L x = some (o1, o2, o3, o4) by rw [← ho]; exact of_eq F L x)
  have R2 := Aside0.mk (show feature_Has.f F L x p m = some (b1, b2) by rw [← hb1]; exact has_eq F L x p m)
  have R3 := Aside0.mk hq3
  have R4 := Aside0.mk (show feature_Far.f F L x y = some (f1, f2) by rw [← hf]; exact far_eq F L x y)
  have R5 := Aside0.mk (show feature_Near.f F L x p m = some (n1, n2) by rw [← hn]; exact near_eq F L x p m)
  have T1 := Aside0.mk hk1
  have T2 := Aside0.mk hk2
  have T3 := Aside0.mk hk3
  have T4 := Aside0.mk hk4
  have T5 := Aside0.mk hk5
  have HR0 := Aside0.mk hr0_0
  have HC0 := Aside0.mk hc0_0
  have HR1 := Aside0.mk hr0_1
  have HC1 := Aside0.mk hc0_1
  have WX := Aside0.mk hx
  have WY := Aside0.mk hy
  have TW := Aside0.mk (twin_eq F L (by omega) (by omega))
  have AK := Aside0.mk (alike_ev F L (by omega) (by omega)).rounds
  have b0 := below_alloc (Below.refl _ w) (.cells #[.slice A0_0 F.length c0_0, .slice A0_1 L.length c0_1] 25)
  have HB := Aside0.mk b0
  have KA := Aside0.mk (blk_new w (.cells #[.slice A0_0 F.length c0_0, .slice A0_1 L.length c0_1] 25))
  have C0 := Aside0.mk (Kd.C_below hr0_0 b0)
  have C1 := Aside0.mk (Kd.C_below hr0_1 b0)
  clear b0 HR0 HR1 hr0_0 hc0_0 hr0_1 hc0_1 hF hL hx hy hp hm hw ho hb1 hcl hf hn hq3 hk1 hk2 hk3 hk4 hk5
  go_enter Tryd.func7, Tryd.ntmps7
  go_wp2_with fail
  refine (alive_any _).mono ?_
  rintro e w1 ⟨rfl, hb⟩
  have n_ := Aside0.mk (Kd.C_below C0.out hb)
  clear C0
  have C0 := n_
  clear n_
  have n_ := Aside0.mk (Kd.C_below C1.out hb)
  clear C1
  have C1 := n_
  clear n_
  have n_ := Aside0.mk (blk_below KA.out hb)
  clear KA
  have KA := n_
  clear n_
  have n_ := Aside0.mk (below_step HB.out hb)
  clear HB
  have HB := n_
  clear n_
  clear hb
  have k0 : w1.cell? ⟨w.heap.size, 0, none⟩ = some (.slice A0_0 F.length c0_0) := (blk_cell KA.out 0).trans rfl
  have k1 : w1.cell? ⟨w.heap.size, 1, none⟩ = some (.slice A0_1 L.length c0_1) := (blk_cell KA.out 1).trans rfl
  go_wp2_with fail
  refine (cognatelaw02_twin.calls A0_0 c0_0 F A0_1 c0_1 L F L _ C0.out HC0.out C1.out HC1.out TW.out).mono ?_
  rintro e w2 ⟨v0, v1, rfl, h0, h1, hb0⟩
  obtain ⟨B0, d0, rfl, hd0, hD0⟩ := Kd.R_reads h0
  obtain ⟨B1, d1, rfl, hd1, hD1⟩ := Kd.R_reads h1
  have E0 := Aside0.mk hd0
  have E1 := Aside0.mk hd1
  have hx := below_alloc (Below.refl _ w2) (.cells #[.slice B0 F.length d0, .slice B1 L.length d1] 25)
  have D0 := Aside0.mk (Kd.C_below hD0 hx)
  have D1 := Aside0.mk (Kd.C_below hD1 hx)
  have KT := Aside0.mk (blk_new w2 (.cells #[.slice B0 F.length d0, .slice B1 L.length d1] 25))
  have hb := below_step (below_then (Below.refl w1.heap.size w1) (Nat.le_refl _) hb0) hx
  clear k0 k1
  have n_ := Aside0.mk (Kd.C_below C0.out hb)
  clear C0
  have C0 := n_
  clear n_
  have n_ := Aside0.mk (Kd.C_below C1.out hb)
  clear C1
  have C1 := n_
  clear n_
  have n_ := Aside0.mk (blk_below KA.out hb)
  clear KA
  have KA := n_
  clear n_
  have n_ := Aside0.mk (below_step HB.out hb)
  clear HB
  have HB := n_
  clear n_
  have SC0 := Aside0.mk C0.out
  have SC1 := Aside0.mk C1.out
  have SD0 := Aside0.mk D0.out
  have SD1 := Aside0.mk D1.out
  have SKT := Aside0.mk KT.out
  have SKA := Aside0.mk KA.out
  have HT := Aside0.mk (Below.refl (w2.alloc (.cells #[.slice B0 F.length d0, .slice B1 L.length d1] 25)).heap.size (w2.alloc (.cells #[.slice B0 F.length d0, .slice B1 L.length d1] 25)))
  have ZT := Aside0.mk (below_size HB.out)
  clear hb hb0 hx h0 h1 hd0 hd1 hD0 hD1
  have k0 : (w2.alloc (.cells #[.slice B0 F.length d0, .slice B1 L.length d1] 25)).cell? ⟨w2.heap.size, 0, none⟩ = some (.slice B0 F.length d0) := (blk_cell KT.out 0).trans rfl
  have k1 : (w2.alloc (.cells #[.slice B0 F.length d0, .slice B1 L.length d1] 25)).cell? ⟨w2.heap.size, 1, none⟩ = some (.slice B1 L.length d1) := (blk_cell KT.out 1).trans rfl
  go_wp2_with fail
  refine (feature_Of.calls B0 d0 F B1 d1 L x o1 o2 o3 o4 _ D0.out E0.out D1.out E1.out R1.out).mono ?_
  rintro e wq2 ⟨rfl, hb⟩
  clear k0 k1
  have n_ := Aside0.mk (Kd.C_below C0.out hb)
  clear C0
  have C0 := n_
  clear n_
  have n_ := Aside0.mk (Kd.C_below C1.out hb)
  clear C1
  have C1 := n_
  clear n_
  have n_ := Aside0.mk (Kd.C_below D0.out hb)
  clear D0
  have D0 := n_
  clear n_
  have n_ := Aside0.mk (Kd.C_below D1.out hb)
  clear D1
  have D1 := n_
  clear n_
  have n_ := Aside0.mk (blk_below KA.out hb)
  clear KA
  have KA := n_
  clear n_
  have n_ := Aside0.mk (blk_below KT.out hb)
  clear KT
  have KT := n_
  clear n_
  have n_ := Aside0.mk (below_step HB.out hb)
  clear HB
  have HB := n_
  clear n_
  have n_ := Aside0.mk (below_step HT.out hb)
  clear HT
  have HT := n_
  clear n_
  clear hb
  have hb := below_alloc (Below.refl wq2.heap.size wq2) (.cells #[.int .i32 o1, .int .u32 o2, .int .u32 o3] 53)
  have KX := Aside0.mk (blk_new wq2 (.cells #[.int .i32 o1, .int .u32 o2, .int .u32 o3] 53))
  have n_ := Aside0.mk (Kd.C_below C0.out hb)
  clear C0
  have C0 := n_
  clear n_
  have n_ := Aside0.mk (Kd.C_below C1.out hb)
  clear C1
  have C1 := n_
  clear n_
  have n_ := Aside0.mk (Kd.C_below D0.out hb)
  clear D0
  have D0 := n_
  clear n_
  have n_ := Aside0.mk (Kd.C_below D1.out hb)
  clear D1
  have D1 := n_
  clear n_
  have n_ := Aside0.mk (blk_below KA.out hb)
  clear KA
  have KA := n_
  clear n_
  have n_ := Aside0.mk (blk_below KT.out hb)
  clear KT
  have KT := n_
  clear n_
  have n_ := Aside0.mk (below_step HB.out hb)
  clear HB
  have HB := n_
  clear n_
  have n_ := Aside0.mk (below_step HT.out hb)
  clear HT
  have HT := n_
  clear n_
  clear hb
  have k0 : (wq2.alloc (.cells #[.int .i32 o1, .int .u32 o2, .int .u32 o3] 53)).cell? ⟨w2.heap.size, 0, none⟩ = some (.slice B0 F.length d0) := (blk_cell KT.out 0).trans rfl
  have k1 : (wq2.alloc (.cells #[.int .i32 o1, .int .u32 o2, .int .u32 o3] 53)).cell? ⟨w2.heap.size, 1, none⟩ = some (.slice B1 L.length d1) := (blk_cell KT.out 1).trans rfl
  go_wp2_with fail
  refine (feature_Has.calls B0 d0 F B1 d1 L x p m b1 b2 _ D0.out E0.out D1.out E1.out R2.out).mono ?_
  rintro e wq3 ⟨rfl, hb⟩
  clear k0 k1
  have n_ := Aside0.mk (Kd.C_below C0.out hb)
  clear C0
  have C0 := n_
  clear n_
  have n_ := Aside0.mk (Kd.C_below C1.out hb)
  clear C1
  have C1 := n_
  clear n_
  have n_ := Aside0.mk (Kd.C_below D0.out hb)
  clear D0
  have D0 := n_
  clear n_
  have n_ := Aside0.mk (Kd.C_below D1.out hb)
  clear D1
  have D1 := n_
  clear n_
  have n_ := Aside0.mk (blk_below KA.out hb)
  clear KA
  have KA := n_
  clear n_
  have n_ := Aside0.mk (blk_below KT.out hb)
  clear KT
  have KT := n_
  clear n_
  have n_ := Aside0.mk (blk_below KX.out hb)
  clear KX
  have KX := n_
  clear n_
  have n_ := Aside0.mk (below_step HB.out hb)
  clear HB
  have HB := n_
  clear n_
  have n_ := Aside0.mk (below_step HT.out hb)
  clear HT
  have HT := n_
  clear n_
  clear hb
  have sz := below_size HT.out
  have k0 : wq3.cell? ⟨w2.heap.size, 0, none⟩ = some (.slice B0 F.length d0) := (blk_cell KT.out 0).trans rfl
  have k1 : wq3.cell? ⟨w2.heap.size, 1, none⟩ = some (.slice B1 L.length d1) := (blk_cell KT.out 1).trans rfl
  go_wp2_with fail
  refine (feature_Class.calls q3 B0 d0 F B1 d1 L p m cl cl2 _ D0.out E0.out D1.out E1.out R3.out).mono ?_
  rintro e wq4 ⟨vM, rfl, hv, hb⟩
  obtain ⟨AM, cM, eM⟩ := Kd.R_slice hv
  subst eM
  clear k0 k1
  have n_ := Aside0.mk (Kd.C_below C0.out hb)
  clear C0
  have C0 := n_
  clear n_
  have n_ := Aside0.mk (Kd.C_below C1.out hb)
  clear C1
  have C1 := n_
  clear n_
  have n_ := Aside0.mk (Kd.C_below D0.out hb)
  clear D0
  have D0 := n_
  clear n_
  have n_ := Aside0.mk (Kd.C_below D1.out hb)
  clear D1
  have D1 := n_
  clear n_
  have n_ := Aside0.mk (blk_below KA.out hb)
  clear KA
  have KA := n_
  clear n_
  have n_ := Aside0.mk (blk_below KT.out hb)
  clear KT
  have KT := n_
  clear n_
  have n_ := Aside0.mk (blk_below KX.out hb)
  clear KX
  have KX := n_
  clear n_
  have n_ := Aside0.mk (below_step HB.out hb)
  clear HB
  have HB := n_
  clear n_
  have n_ := Aside0.mk (below_step HT.out hb)
  clear HT
  have HT := n_
  clear n_
  clear hb
  have M := Aside0.mk (Kd.R_lower hv sz)
  clear hv sz
  have k0 : wq4.cell? ⟨w2.heap.size, 0, none⟩ = some (.slice B0 F.length d0) := (blk_cell KT.out 0).trans rfl
  have k1 : wq4.cell? ⟨w2.heap.size, 1, none⟩ = some (.slice B1 L.length d1) := (blk_cell KT.out 1).trans rfl
  go_wp2_with fail
  refine (feature_Far.calls B0 d0 F B1 d1 L x y f1 f2 _ D0.out E0.out D1.out E1.out R4.out).mono ?_
  rintro e wq5 ⟨rfl, hb⟩
  clear k0 k1
  have n_ := Aside0.mk (Kd.C_below C0.out hb)
  clear C0
  have C0 := n_
  clear n_
  have n_ := Aside0.mk (Kd.C_below C1.out hb)
  clear C1
  have C1 := n_
  clear n_
  have n_ := Aside0.mk (Kd.C_below D0.out hb)
  clear D0
  have D0 := n_
  clear n_
  have n_ := Aside0.mk (Kd.C_below D1.out hb)
  clear D1
  have D1 := n_
  clear n_
  have n_ := Aside0.mk (Kd.R_below M.out hb)
  clear M
  have M := n_
  clear n_
  have n_ := Aside0.mk (blk_below KA.out hb)
  clear KA
  have KA := n_
  clear n_
  have n_ := Aside0.mk (blk_below KT.out hb)
  clear KT
  have KT := n_
  clear n_
  have n_ := Aside0.mk (blk_below KX.out hb)
  clear KX
  have KX := n_
  clear n_
  have n_ := Aside0.mk (below_step HB.out hb)
  clear HB
  have HB := n_
  clear n_
  have n_ := Aside0.mk (below_step HT.out hb)
  clear HT
  have HT := n_
  clear n_
  clear hb
  have k0 : wq5.cell? ⟨w2.heap.size, 0, none⟩ = some (.slice B0 F.length d0) := (blk_cell KT.out 0).trans rfl
  have k1 : wq5.cell? ⟨w2.heap.size, 1, none⟩ = some (.slice B1 L.length d1) := (blk_cell KT.out 1).trans rfl
  go_wp2_with fail
  refine (feature_Near.calls B0 d0 F B1 d1 L x p m n1 n2 _ D0.out E0.out D1.out E1.out R5.out).mono ?_
  rintro e wq6 ⟨rfl, hb⟩
  clear k0 k1
  have n_ := Aside0.mk (Kd.C_below C0.out hb)
  clear C0
  have C0 := n_
  clear n_
  have n_ := Aside0.mk (Kd.C_below C1.out hb)
  clear C1
  have C1 := n_
  clear n_
  have n_ := Aside0.mk (Kd.C_below D0.out hb)
  clear D0
  have D0 := n_
  clear n_
  have n_ := Aside0.mk (Kd.C_below D1.out hb)
  clear D1
  have D1 := n_
  clear n_
  have n_ := Aside0.mk (Kd.R_below M.out hb)
  clear M
  have M := n_
  clear n_
  have n_ := Aside0.mk (blk_below KA.out hb)
  clear KA
  have KA := n_
  clear n_
  have n_ := Aside0.mk (blk_below KT.out hb)
  clear KT
  have KT := n_
  clear n_
  have n_ := Aside0.mk (blk_below KX.out hb)
  clear KX
  have KX := n_
  clear n_
  have n_ := Aside0.mk (below_step HB.out hb)
  clear HB
  have HB := n_
  clear n_
  have n_ := Aside0.mk (below_step HT.out hb)
  clear HT
  have HT := n_
  clear n_
  clear hb
  obtain ⟨bM2, hbM2⟩ : ∃ b_, b_ = wq6.heap.size := ⟨_, rfl⟩
  have LM2 := Aside0.mk (Kd.R_lt M.out)
  rw [← hbM2] at LM2
  have NbM2 := Aside0.mk hbM2
  clear hbM2
  have k0 : wq6.cell? ⟨w2.heap.size, 0, none⟩ = some (.slice B0 F.length d0) := (blk_cell KT.out 0).trans rfl
  have k1 : wq6.cell? ⟨w2.heap.size, 1, none⟩ = some (.slice B1 L.length d1) := (blk_cell KT.out 1).trans rfl
  go_wp2_with fail
  refine (feature_Class.calls q3 B0 d0 F B1 d1 L p m cl cl2 _ D0.out E0.out D1.out E1.out R3.out).mono ?_
  rintro e wq7 ⟨vM2, rfl, hv, hb⟩
  obtain ⟨AM2, cM2, eM2⟩ := Kd.R_slice hv
  subst eM2
  clear k0 k1
  have n_ := Aside0.mk (Kd.C_below C0.out hb)
  clear C0
  have C0 := n_
  clear n_
  have n_ := Aside0.mk (Kd.C_below C1.out hb)
  clear C1
  have C1 := n_
  clear n_
  have n_ := Aside0.mk (Kd.C_below D0.out hb)
  clear D0
  have D0 := n_
  clear n_
  have n_ := Aside0.mk (Kd.C_below D1.out hb)
  clear D1
  have D1 := n_
  clear n_
  have n_ := Aside0.mk (Kd.R_below M.out hb)
  clear M
  have M := n_
  clear n_
  have n_ := Aside0.mk (blk_below KA.out hb)
  clear KA
  have KA := n_
  clear n_
  have n_ := Aside0.mk (blk_below KT.out hb)
  clear KT
  have KT := n_
  clear n_
  have n_ := Aside0.mk (blk_below KX.out hb)
  clear KX
  have KX := n_
  clear n_
  have n_ := Aside0.mk (below_step HB.out hb)
  clear HB
  have HB := n_
  clear n_
  have n_ := Aside0.mk (below_step HT.out hb)
  clear HT
  have HT := n_
  clear n_
  clear hb
  rw [← NbM2.out] at hv
  have M2 := Aside0.mk hv
  clear hv NbM2
  have k0 : wq7.cell? ⟨w.heap.size, 0, none⟩ = some (.slice A0_0 F.length c0_0) := (blk_cell KA.out 0).trans rfl
  have k1 : wq7.cell? ⟨w.heap.size, 1, none⟩ = some (.slice A0_1 L.length c0_1) := (blk_cell KA.out 1).trans rfl
  go_wp2_with fail
  refine (cognateref02_Of.calls g1 A0_0 c0_0 F A0_1 c0_1 L x o1 o2 o3 o4 _ C0.out HC0.out C1.out HC1.out T1.out).mono ?_
  rintro e wq8 ⟨rfl, hb⟩
  clear k0 k1
  have n_ := Aside0.mk (Kd.C_below C0.out hb)
  clear C0
  have C0 := n_
  clear n_
  have n_ := Aside0.mk (Kd.C_below C1.out hb)
  clear C1
  have C1 := n_
  clear n_
  have n_ := Aside0.mk (Kd.C_below D0.out hb)
  clear D0
  have D0 := n_
  clear n_
  have n_ := Aside0.mk (Kd.C_below D1.out hb)
  clear D1
  have D1 := n_
  clear n_
  have n_ := Aside0.mk (Kd.R_below M.out hb)
  clear M
  have M := n_
  clear n_
  have n_ := Aside0.mk (Kd.R_below M2.out hb)
  clear M2
  have M2 := n_
  clear n_
  have n_ := Aside0.mk (blk_below KA.out hb)
  clear KA
  have KA := n_
  clear n_
  have n_ := Aside0.mk (blk_below KT.out hb)
  clear KT
  have KT := n_
  clear n_
  have n_ := Aside0.mk (blk_below KX.out hb)
  clear KX
  have KX := n_
  clear n_
  have n_ := Aside0.mk (below_step HB.out hb)
  clear HB
  have HB := n_
  clear n_
  have n_ := Aside0.mk (below_step HT.out hb)
  clear HT
  have HT := n_
  clear n_
  clear hb
  have hb := below_alloc (Below.refl wq8.heap.size wq8) (.cells #[.int .i32 o1, .int .u32 o2, .int .u32 o3] 53)
  have KY := Aside0.mk (blk_new wq8 (.cells #[.int .i32 o1, .int .u32 o2, .int .u32 o3] 53))
  have n_ := Aside0.mk (Kd.C_below C0.out hb)
  clear C0
  have C0 := n_
  clear n_
  have n_ := Aside0.mk (Kd.C_below C1.out hb)
  clear C1
  have C1 := n_
  clear n_
  have n_ := Aside0.mk (Kd.C_below D0.out hb)
  clear D0
  have D0 := n_
  clear n_
  have n_ := Aside0.mk (Kd.C_below D1.out hb)
  clear D1
  have D1 := n_
  clear n_
  have n_ := Aside0.mk (Kd.R_below M.out hb)
  clear M
  have M := n_
  clear n_
  have n_ := Aside0.mk (Kd.R_below M2.out hb)
  clear M2
  have M2 := n_
  clear n_
  have n_ := Aside0.mk (blk_below KA.out hb)
  clear KA
  have KA := n_
  clear n_
  have n_ := Aside0.mk (blk_below KT.out hb)
  clear KT
  have KT := n_
  clear n_
  have n_ := Aside0.mk (blk_below KX.out hb)
  clear KX
  have KX := n_
  clear n_
  have n_ := Aside0.mk (below_step HB.out hb)
  clear HB
  have HB := n_
  clear n_
  have n_ := Aside0.mk (below_step HT.out hb)
  clear HT
  have HT := n_
  clear n_
  clear hb
  have k0 : (wq8.alloc (.cells #[.int .i32 o1, .int .u32 o2, .int .u32 o3] 53)).cell? ⟨w.heap.size, 0, none⟩ = some (.slice A0_0 F.length c0_0) := (blk_cell KA.out 0).trans rfl
  have k1 : (wq8.alloc (.cells #[.int .i32 o1, .int .u32 o2, .int .u32 o3] 53)).cell? ⟨w.heap.size, 1, none⟩ = some (.slice A0_1 L.length c0_1) := (blk_cell KA.out 1).trans rfl
  go_wp2_with fail
  refine (cognateref02_Has.calls g2 A0_0 c0_0 F A0_1 c0_1 L x p m b1 b2 _ C0.out HC0.out C1.out HC1.out T2.out).mono ?_
  rintro e wq9 ⟨rfl, hb⟩
  clear k0 k1
  have n_ := Aside0.mk (Kd.C_below C0.out hb)
  clear C0
  have C0 := n_
  clear n_
  have n_ := Aside0.mk (Kd.C_below C1.out hb)
  clear C1
  have C1 := n_
  clear n_
  have n_ := Aside0.mk (Kd.C_below D0.out hb)
  clear D0
  have D0 := n_
  clear n_
  have n_ := Aside0.mk (Kd.C_below D1.out hb)
  clear D1
  have D1 := n_
  clear n_
  have n_ := Aside0.mk (Kd.R_below M.out hb)
  clear M
  have M := n_
  clear n_
  have n_ := Aside0.mk (Kd.R_below M2.out hb)
  clear M2
  have M2 := n_
  clear n_
  have n_ := Aside0.mk (blk_below KA.out hb)
  clear KA
  have KA := n_
  clear n_
  have n_ := Aside0.mk (blk_below KT.out hb)
  clear KT
  have KT := n_
  clear n_
  have n_ := Aside0.mk (blk_below KX.out hb)
  clear KX
  have KX := n_
  clear n_
  have n_ := Aside0.mk (blk_below KY.out hb)
  clear KY
  have KY := n_
  clear n_
  have n_ := Aside0.mk (below_step HB.out hb)
  clear HB
  have HB := n_
  clear n_
  have n_ := Aside0.mk (below_step HT.out hb)
  clear HT
  have HT := n_
  clear n_
  clear hb
  obtain ⟨bM3, hbM3⟩ : ∃ b_, b_ = wq9.heap.size := ⟨_, rfl⟩
  have LM3 := Aside0.mk (Kd.R_lt M.out)
  rw [← hbM3] at LM3
  have NbM3 := Aside0.mk hbM3
  clear hbM3
  have k0 : wq9.cell? ⟨w.heap.size, 0, none⟩ = some (.slice A0_0 F.length c0_0) := (blk_cell KA.out 0).trans rfl
  have k1 : wq9.cell? ⟨w.heap.size, 1, none⟩ = some (.slice A0_1 L.length c0_1) := (blk_cell KA.out 1).trans rfl
  go_wp2_with fail
  refine (cognateref02_Class.calls g3 A0_0 c0_0 F A0_1 c0_1 L p m cl cl2 _ C0.out HC0.out C1.out HC1.out T3.out).mono ?_
  rintro e wq10 ⟨vM3, rfl, hv, hb⟩
  obtain ⟨AM3, cM3, eM3⟩ := Kd.R_slice hv
  subst eM3
  clear k0 k1
  have n_ := Aside0.mk (Kd.C_below C0.out hb)
  clear C0
  have C0 := n_
  clear n_
  have n_ := Aside0.mk (Kd.C_below C1.out hb)
  clear C1
  have C1 := n_
  clear n_
  have n_ := Aside0.mk (Kd.C_below D0.out hb)
  clear D0
  have D0 := n_
  clear n_
  have n_ := Aside0.mk (Kd.C_below D1.out hb)
  clear D1
  have D1 := n_
  clear n_
  have n_ := Aside0.mk (Kd.R_below M.out hb)
  clear M
  have M := n_
  clear n_
  have n_ := Aside0.mk (Kd.R_below M2.out hb)
  clear M2
  have M2 := n_
  clear n_
  have n_ := Aside0.mk (blk_below KA.out hb)
  clear KA
  have KA := n_
  clear n_
  have n_ := Aside0.mk (blk_below KT.out hb)
  clear KT
  have KT := n_
  clear n_
  have n_ := Aside0.mk (blk_below KX.out hb)
  clear KX
  have KX := n_
  clear n_
  have n_ := Aside0.mk (blk_below KY.out hb)
  clear KY
  have KY := n_
  clear n_
  have n_ := Aside0.mk (below_step HB.out hb)
  clear HB
  have HB := n_
  clear n_
  have n_ := Aside0.mk (below_step HT.out hb)
  clear HT
  have HT := n_
  clear n_
  clear hb
  rw [← NbM3.out] at hv
  have M3 := Aside0.mk hv
  clear hv NbM3
  have k0 : wq10.cell? ⟨w.heap.size, 0, none⟩ = some (.slice A0_0 F.length c0_0) := (blk_cell KA.out 0).trans rfl
  have k1 : wq10.cell? ⟨w.heap.size, 1, none⟩ = some (.slice A0_1 L.length c0_1) := (blk_cell KA.out 1).trans rfl
  go_wp2_with fail
  refine (cognateref02_Far.calls g4 A0_0 c0_0 F A0_1 c0_1 L x y f1 f2 _ C0.out HC0.out C1.out HC1.out T4.out).mono ?_
  rintro e wq11 ⟨rfl, hb⟩
  clear k0 k1
  have n_ := Aside0.mk (Kd.C_below C0.out hb)
  clear C0
  have C0 := n_
  clear n_
  have n_ := Aside0.mk (Kd.C_below C1.out hb)
  clear C1
  have C1 := n_
  clear n_
  have n_ := Aside0.mk (Kd.C_below D0.out hb)
  clear D0
  have D0 := n_
  clear n_
  have n_ := Aside0.mk (Kd.C_below D1.out hb)
  clear D1
  have D1 := n_
  clear n_
  have n_ := Aside0.mk (Kd.R_below M.out hb)
  clear M
  have M := n_
  clear n_
  have n_ := Aside0.mk (Kd.R_below M2.out hb)
  clear M2
  have M2 := n_
  clear n_
  have n_ := Aside0.mk (Kd.R_below M3.out hb)
  clear M3
  have M3 := n_
  clear n_
  have n_ := Aside0.mk (blk_below KA.out hb)
  clear KA
  have KA := n_
  clear n_
  have n_ := Aside0.mk (blk_below KT.out hb)
  clear KT
  have KT := n_
  clear n_
  have n_ := Aside0.mk (blk_below KX.out hb)
  clear KX
  have KX := n_
  clear n_
  have n_ := Aside0.mk (blk_below KY.out hb)
  clear KY
  have KY := n_
  clear n_
  have n_ := Aside0.mk (below_step HB.out hb)
  clear HB
  have HB := n_
  clear n_
  have n_ := Aside0.mk (below_step HT.out hb)
  clear HT
  have HT := n_
  clear n_
  clear hb
  have k0 : wq11.cell? ⟨w.heap.size, 0, none⟩ = some (.slice A0_0 F.length c0_0) := (blk_cell KA.out 0).trans rfl
  have k1 : wq11.cell? ⟨w.heap.size, 1, none⟩ = some (.slice A0_1 L.length c0_1) := (blk_cell KA.out 1).trans rfl
  go_wp2_with fail
  refine (cognateref02_Near.calls g5 A0_0 c0_0 F A0_1 c0_1 L x p m n1 n2 _ C0.out HC0.out C1.out HC1.out T5.out).mono ?_
  rintro e wq12 ⟨rfl, hb⟩
  clear k0 k1
  have n_ := Aside0.mk (Kd.C_below C0.out hb)
  clear C0
  have C0 := n_
  clear n_
  have n_ := Aside0.mk (Kd.C_below C1.out hb)
  clear C1
  have C1 := n_
  clear n_
  have n_ := Aside0.mk (Kd.C_below D0.out hb)
  clear D0
  have D0 := n_
  clear n_
  have n_ := Aside0.mk (Kd.C_below D1.out hb)
  clear D1
  have D1 := n_
  clear n_
  have n_ := Aside0.mk (Kd.R_below M.out hb)
  clear M
  have M := n_
  clear n_
  have n_ := Aside0.mk (Kd.R_below M2.out hb)
  clear M2
  have M2 := n_
  clear n_
  have n_ := Aside0.mk (Kd.R_below M3.out hb)
  clear M3
  have M3 := n_
  clear n_
  have n_ := Aside0.mk (blk_below KA.out hb)
  clear KA
  have KA := n_
  clear n_
  have n_ := Aside0.mk (blk_below KT.out hb)
  clear KT
  have KT := n_
  clear n_
  have n_ := Aside0.mk (blk_below KX.out hb)
  clear KX
  have KX := n_
  clear n_
  have n_ := Aside0.mk (blk_below KY.out hb)
  clear KY
  have KY := n_
  clear n_
  have n_ := Aside0.mk (below_step HB.out hb)
  clear HB
  have HB := n_
  clear n_
  have n_ := Aside0.mk (below_step HT.out hb)
  clear HT
  have HT := n_
  clear n_
  clear hb
  go_wp2
  have hb := below_drew1 (Below.refl wq12.heap.size wq12)
  have n_ := Aside0.mk (Kd.C_below C0.out hb)
  clear C0
  have C0 := n_
  clear n_
  have n_ := Aside0.mk (Kd.C_below C1.out hb)
  clear C1
  have C1 := n_
  clear n_
  have n_ := Aside0.mk (Kd.C_below D0.out hb)
  clear D0
  have D0 := n_
  clear n_
  have n_ := Aside0.mk (Kd.C_below D1.out hb)
  clear D1
  have D1 := n_
  clear n_
  have n_ := Aside0.mk (Kd.R_below M.out hb)
  clear M
  have M := n_
  clear n_
  have n_ := Aside0.mk (Kd.R_below M2.out hb)
  clear M2
  have M2 := n_
  clear n_
  have n_ := Aside0.mk (Kd.R_below M3.out hb)
  clear M3
  have M3 := n_
  clear n_
  have n_ := Aside0.mk (blk_below KA.out hb)
  clear KA
  have KA := n_
  clear n_
  have n_ := Aside0.mk (blk_below KT.out hb)
  clear KT
  have KT := n_
  clear n_
  have n_ := Aside0.mk (blk_below KX.out hb)
  clear KX
  have KX := n_
  clear n_
  have n_ := Aside0.mk (blk_below KY.out hb)
  clear KY
  have KY := n_
  clear n_
  have n_ := Aside0.mk (below_step HB.out hb)
  clear HB
  have HB := n_
  clear n_
  have n_ := Aside0.mk (below_step HT.out hb)
  clear HT
  have HT := n_
  clear n_
  clear hb
  refine start_ (n := 31) (S := fun w' => w'.cell? ⟨wq2.heap.size, 0, none⟩ = some (.int .i32 o1) ∧ w'.cell? ⟨wq2.heap.size, 1, none⟩ = some (.int .u32 o2) ∧ w'.cell? ⟨wq2.heap.size, 2, none⟩ = some (.int .u32 o3) ∧ w'.cell? ⟨wq8.heap.size, 0, none⟩ = some (.int .i32 o1) ∧ w'.cell? ⟨wq8.heap.size, 1, none⟩ = some (.int .u32 o2) ∧ w'.cell? ⟨wq8.heap.size, 2, none⟩ = some (.int .u32 o3) ∧ w'.cell? ⟨w2.heap.size, 0, none⟩ = some (.slice B0 F.length d0) ∧ w'.cell? ⟨w2.heap.size, 1, none⟩ = some (.slice B1 L.length d1) ∧ w'.cell? ⟨w.heap.size, 0, none⟩ = some (.slice A0_0 F.length c0_0) ∧ w'.cell? ⟨w.heap.size, 1, none⟩ = some (.slice A0_1 L.length c0_1)) (ds := []) #[false, false, false, false, false, false, false, false, false, false, false, false, false, false, false, false, false, false, false, false, false, false, false, false, false, false, false, false, false, false, false] (by kernel_rfl) rfl rfl ⟨(blk_cell KX.out 0).trans rfl, (blk_cell KX.out 1).trans rfl, (blk_cell KX.out 2).trans rfl, (blk_cell KY.out 0).trans rfl, (blk_cell KY.out 1).trans rfl, (blk_cell KY.out 2).trans rfl, (blk_cell KT.out 0).trans rfl, (blk_cell KT.out 1).trans rfl, (blk_cell KA.out 0).trans rfl, (blk_cell KA.out 1).trans rfl⟩ (fun hHeld => ?_)
  refine with_tabW classes_t classes_b (fun HT_ HW_ => ?_)
  generalize wq12.drew = wd at C0 C1 D0 D1 M M2 M3 KA KT KX KY HB HT hHeld ⊢
  refine take_ (i := 0) (N := some 122) (v := ?_) (a' := ?_) #[true, false, false, false, false, false, false, false, false, false, false, false, false, false, false, false, false, false, false, false, false, false, false, false, false, false, false, false, false, false, false] rfl rfl (take_ofW HT_.out HW_.out (by kernel_rfl)) (fun _ _ _ h => h) (Or.inl ⟨by rfl, ?_⟩) hHeld ?_ ?_
  rotate_left
  · rintro w' ⟨s0, s1, s2, s3, s4, s5, s6, s7, s8, s9⟩
    go_simp
    with_reducible rfl
  rotate_left
  · simp only [Act.put, List.setIfInBounds_toArray, List.set_cons_zero, List.set_cons_succ, i64_w, i32_w]
    rfl
  refine take_ (i := 1) (N := some 123) (v := ?_) (a' := ?_) #[true, true, false, false, false, false, false, false, false, false, false, false, false, false, false, false, false, false, false, false, false, false, false, false, false, false, false, false, false, false, false] rfl rfl (take_ofW HT_.out HW_.out (by kernel_rfl)) (fun _ _ _ h => h) (Or.inl ⟨by rfl, ?_⟩) hHeld ?_ ?_
  rotate_left
  · rintro w' ⟨s0, s1, s2, s3, s4, s5, s6, s7, s8, s9⟩
    go_simp
    with_reducible rfl
  rotate_left
  · simp only [Act.put, List.setIfInBounds_toArray, List.set_cons_zero, List.set_cons_succ, i64_w, i32_w]
    rfl
  refine pure_ (i := 2) (N := some 124) (v := ?_) (a' := ?_) #[true, true, true, false, false, false, false, false, false, false, false, false, false, false, false, false, false, false, false, false, false, false, false, false, false, false, false, false, false, false, false] rfl rfl (any_of HT_.out (by kernel_rfl)) (fun _ _ _ h => h) (Or.inl ⟨by rfl, ?_⟩) ?_ ?_
  rotate_left
  · intro w'
    go_simp
    with_reducible rfl
  rotate_left
  · simp only [Act.put, List.setIfInBounds_toArray, List.set_cons_zero, List.set_cons_succ, i64_w, i32_w]
    rfl
  refine pure_ (i := 3) (N := some 125) (v := ?_) (a' := ?_) #[true, true, true, true, false, false, false, false, false, false, false, false, false, false, false, false, false, false, false, false, false, false, false, false, false, false, false, false, false, false, false] rfl rfl (any_of HT_.out (by kernel_rfl)) (fun _ _ _ h => h) (Or.inl ⟨by rfl, ?_⟩) ?_ ?_
  rotate_left
  · intro w'
    go_simp
    with_reducible rfl
  rotate_left
  · simp only [Act.put, List.setIfInBounds_toArray, List.set_cons_zero, List.set_cons_succ, i64_w, i32_w]
    rfl
  refine pure_ (i := 4) (N := some 126) (v := ?_) (a' := ?_) #[true, true, true, true, true, false, false, false, false, false, false, false, false, false, false, false, false, false, false, false, false, false, false, false, false, false, false, false, false, false, false] rfl rfl (any_of HT_.out (by kernel_rfl)) (fun _ _ _ h => h) (Or.inl ⟨by rfl, ?_⟩) ?_ ?_
  rotate_left
  · intro w'
    go_simp
    with_reducible rfl
  rotate_left
  · simp only [Act.put, List.setIfInBounds_toArray, List.set_cons_zero, List.set_cons_succ, i64_w, i32_w]
    rfl
  refine pure_ (i := 5) (N := some 127) (v := ?_) (a' := ?_) #[true, true, true, true, true, true, false, false, false, false, false, false, false, false, false, false, false, false, false, false, false, false, false, false, false, false, false, false, false, false, false] rfl rfl (any_of HT_.out (by kernel_rfl)) (fun _ _ _ h => h) (Or.inl ⟨by rfl, ?_⟩) ?_ ?_
  rotate_left
  · intro w'
    go_simp
    with_reducible rfl
  rotate_left
  · simp only [Act.put, List.setIfInBounds_toArray, List.set_cons_zero, List.set_cons_succ, i64_w, i32_w]
    rfl
  refine pure_ (i := 6) (N := some 128) (v := ?_) (a' := ?_) #[true, true, true, true, true, true, true, false, false, false, false, false, false, false, false, false, false, false, false, false, false, false, false, false, false, false, false, false, false, false, false] rfl rfl (any_of HT_.out (by kernel_rfl)) (fun _ _ _ h => h) (Or.inl ⟨by rfl, ?_⟩) ?_ ?_
  rotate_left
  · intro w'
    go_simp
    with_reducible rfl
  rotate_left
  · simp only [Act.put, List.setIfInBounds_toArray, List.set_cons_zero, List.set_cons_succ, i64_w, i32_w]
    rfl
  refine pure_ (i := 7) (N := some 129) (v := ?_) (a' := ?_) #[true, true, true, true, true, true, true, true, false, false, false, false, false, false, false, false, false, false, false, false, false, false, false, false, false, false, false, false, false, false, false] rfl rfl (any_of HT_.out (by kernel_rfl)) (fun _ _ _ h => h) (Or.inl ⟨by rfl, ?_⟩) ?_ ?_
  rotate_left
  · intro w'
    go_simp
    with_reducible rfl
  rotate_left
  · simp only [Act.put, List.setIfInBounds_toArray, List.set_cons_zero, List.set_cons_succ, i64_w, i32_w]
    rfl
  refine pure_ (i := 8) (N := some 130) (v := ?_) (a' := ?_) #[true, true, true, true, true, true, true, true, true, false, false, false, false, false, false, false, false, false, false, false, false, false, false, false, false, false, false, false, false, false, false] rfl rfl (any_of HT_.out (by kernel_rfl)) (fun _ _ _ h => h) (Or.inl ⟨by rfl, ?_⟩) ?_ ?_
  rotate_left
  · intro w'
    go_simp
    with_reducible rfl
  rotate_left
  · simp only [Act.put, List.setIfInBounds_toArray, List.set_cons_zero, List.set_cons_succ, i64_w, i32_w]
    rfl
  refine pure_ (i := 9) (N := some 131) (v := ?_) (a' := ?_) #[true, true, true, true, true, true, true, true, true, true, false, false, false, false, false, false, false, false, false, false, false, false, false, false, false, false, false, false, false, false, false] rfl rfl (any_of HT_.out (by kernel_rfl)) (fun _ _ _ h => h) (Or.inl ⟨by rfl, ?_⟩) ?_ ?_
  rotate_left
  · intro w'
    go_simp
    with_reducible rfl
  rotate_left
  · simp only [Act.put, List.setIfInBounds_toArray, List.set_cons_zero, List.set_cons_succ, i64_w, i32_w]
    rfl
  refine pure_ (i := 10) (N := some 132) (v := ?_) (a' := ?_) #[true, true, true, true, true, true, true, true, true, true, true, false, false, false, false, false, false, false, false, false, false, false, false, false, false, false, false, false, false, false, false] rfl rfl (any_of HT_.out (by kernel_rfl)) (fun _ _ _ h => h) (Or.inl ⟨by rfl, ?_⟩) ?_ ?_
  rotate_left
  · intro w'
    go_simp
    with_reducible rfl
  rotate_left
  · simp only [Act.put, List.setIfInBounds_toArray, List.set_cons_zero, List.set_cons_succ, i64_w, i32_w]
    rfl
  refine one_ (i := 11) (N := some 133) #[true, true, true, true, true, true, true, true, true, true, true, true, false, false, false, false, false, false, false, false, false, false, false, false, false, false, false, false, false, false, false] rfl rfl (one_of HT_.out (by kernel_rfl)) (by decide) (fun K_ hK => ?_)
  refine goes_ Tryd.func40 (by kernel_rfl) rfl #[.slice AM cl.length cM, .slice AM3 cl.length cM3] (by rfl) rfl rfl (by (try simp only [List.map_toArray, List.map_cons, List.map_nil]); first | done | rfl | (simp only [List.length_drop, List.length_take]; rfl)) ?_
  refine (cognateref02_Same.calls q6 AM cM cl AM3 cM3 cl true _ (Kd.R_reads' M.out).2.2 (Kd.R_reads' M.out).2.1 (Kd.R_reads' M3.out).2.2 (Kd.R_reads' M3.out).2.1 SA.out).mono ?_
  rintro e wr1 ⟨rfl, hb⟩
  refine ⟨_, rfl, ?_⟩
  have hb0 := hb
  clear hb
  have hb := hb0.below
  have n_ := Aside0.mk (Kd.C_below C0.out hb)
  clear C0
  have C0 := n_
  clear n_
  have n_ := Aside0.mk (Kd.C_below C1.out hb)
  clear C1
  have C1 := n_
  clear n_
  have n_ := Aside0.mk (Kd.C_below D0.out hb)
  clear D0
  have D0 := n_
  clear n_
  have n_ := Aside0.mk (Kd.C_below D1.out hb)
  clear D1
  have D1 := n_
  clear n_
  have n_ := Aside0.mk (Kd.R_below M.out hb)
  clear M
  have M := n_
  clear n_
  have n_ := Aside0.mk (Kd.R_below M2.out hb)
  clear M2
  have M2 := n_
  clear n_
  have n_ := Aside0.mk (Kd.R_below M3.out hb)
  clear M3
  have M3 := n_
  clear n_
  have n_ := Aside0.mk (blk_below KA.out hb)
  clear KA
  have KA := n_
  clear n_
  have n_ := Aside0.mk (blk_below KT.out hb)
  clear KT
  have KT := n_
  clear n_
  have n_ := Aside0.mk (blk_below KX.out hb)
  clear KX
  have KX := n_
  clear n_
  have n_ := Aside0.mk (blk_below KY.out hb)
  clear KY
  have KY := n_
  clear n_
  have n_ := Aside0.mk (below_step HB.out hb)
  clear HB
  have HB := n_
  clear n_
  have n_ := Aside0.mk (below_step HT.out hb)
  clear HT
  have HT := n_
  clear n_
  clear hb
  refine hK.out _ _ ⟨(blk_cell KX.out 0).trans rfl, (blk_cell KX.out 1).trans rfl, (blk_cell KX.out 2).trans rfl, (blk_cell KY.out 0).trans rfl, (blk_cell KY.out 1).trans rfl, (blk_cell KY.out 2).trans rfl, (blk_cell KT.out 0).trans rfl, (blk_cell KT.out 1).trans rfl, (blk_cell KA.out 0).trans rfl, (blk_cell KA.out 1).trans rfl⟩ (fun hHeld => ?_)
  clear hK K_
  refine norm_ (a' := ?_) ?_ ?_
  rotate_left
  · show Act.put _ (some 133) _ = _
    simp only [Act.put, List.setIfInBounds_toArray, List.set_cons_zero, List.set_cons_succ, i64_w, i32_w]
    rfl
  refine pure_ (i := 12) (N := some 134) (v := ?_) (a' := ?_) #[true, true, true, true, true, true, true, true, true, true, true, true, true, false, false, false, false, false, false, false, false, false, false, false, false, false, false, false, false, false, false] rfl rfl (any_of HT_.out (by kernel_rfl)) (fun _ _ _ h => h) (Or.inl ⟨by rfl, ?_⟩) ?_ ?_
  rotate_left
  · intro w'
    go_simp
    with_reducible rfl
  rotate_left
  · simp only [Act.put, List.setIfInBounds_toArray, List.set_cons_zero, List.set_cons_succ, i64_w, i32_w]
    rfl
  refine pure_ (i := 13) (N := some 135) (v := ?_) (a' := ?_) #[true, true, true, true, true, true, true, true, true, true, true, true, true, true, false, false, false, false, false, false, false, false, false, false, false, false, false, false, false, false, false] rfl rfl (any_of HT_.out (by kernel_rfl)) (fun _ _ _ h => h) (Or.inl ⟨by rfl, ?_⟩) ?_ ?_
  rotate_left
  · intro w'
    go_simp
    with_reducible rfl
  rotate_left
  · simp only [Act.put, List.setIfInBounds_toArray, List.set_cons_zero, List.set_cons_succ, i64_w, i32_w]
    rfl
  refine pure_ (i := 14) (N := some 136) (v := ?_) (a' := ?_) #[true, true, true, true, true, true, true, true, true, true, true, true, true, true, true, false, false, false, false, false, false, false, false, false, false, false, false, false, false, false, false] rfl rfl (any_of HT_.out (by kernel_rfl)) (fun _ _ _ h => h) (Or.inl ⟨by rfl, ?_⟩) ?_ ?_
  rotate_left
  · intro w'
    go_simp
    with_reducible rfl
  rotate_left
  · simp only [Act.put, List.setIfInBounds_toArray, List.set_cons_zero, List.set_cons_succ, i64_w, i32_w]
    rfl
  refine pure_ (i := 15) (N := some 137) (v := ?_) (a' := ?_) #[true, true, true, true, true, true, true, true, true, true, true, true, true, true, true, true, false, false, false, false, false, false, false, false, false, false, false, false, false, false, false] rfl rfl (any_of HT_.out (by kernel_rfl)) (fun _ _ _ h => h) (Or.inl ⟨by rfl, ?_⟩) ?_ ?_
  rotate_left
  · intro w'
    go_simp
    with_reducible rfl
  rotate_left
  · simp only [Act.put, List.setIfInBounds_toArray, List.set_cons_zero, List.set_cons_succ, i64_w, i32_w]
    rfl
  refine pure_ (i := 16) (N := some 138) (v := ?_) (a' := ?_) #[true, true, true, true, true, true, true, true, true, true, true, true, true, true, true, true, true, false, false, false, false, false, false, false, false, false, false, false, false, false, false] rfl rfl (any_of HT_.out (by kernel_rfl)) (fun _ _ _ h => h) (Or.inl ⟨by rfl, ?_⟩) ?_ ?_
  rotate_left
  · intro w'
    go_simp
    with_reducible rfl
  rotate_left
  · simp only [Act.put, List.setIfInBounds_toArray, List.set_cons_zero, List.set_cons_succ, i64_w, i32_w]
    rfl
  refine pure_ (i := 17) (N := some 139) (v := ?_) (a' := ?_) #[true, true, true, true, true, true, true, true, true, true, true, true, true, true, true, true, true, true, false, false, false, false, false, false, false, false, false, false, false, false, false] rfl rfl (any_of HT_.out (by kernel_rfl)) (fun _ _ _ h => h) (Or.inl ⟨by rfl, ?_⟩) ?_ ?_
  rotate_left
  · intro w'
    go_simp
    with_reducible rfl
  rotate_left
  · simp only [Act.put, List.setIfInBounds_toArray, List.set_cons_zero, List.set_cons_succ, i64_w, i32_w]
    rfl
  refine pure_ (i := 18) (N := some 140) (v := ?_) (a' := ?_) #[true, true, true, true, true, true, true, true, true, true, true, true, true, true, true, true, true, true, true, false, false, false, false, false, false, false, false, false, false, false, false] rfl rfl (any_of HT_.out (by kernel_rfl)) (fun _ _ _ h => h) (Or.inl ⟨by rfl, ?_⟩) ?_ ?_
  rotate_left
  · intro w'
    go_simp
    with_reducible rfl
  rotate_left
  · simp only [Act.put, List.setIfInBounds_toArray, List.set_cons_zero, List.set_cons_succ, i64_w, i32_w]
    rfl
  refine pure_ (i := 19) (N := some 141) (v := ?_) (a' := ?_) #[true, true, true, true, true, true, true, true, true, true, true, true, true, true, true, true, true, true, true, true, false, false, false, false, false, false, false, false, false, false, false] rfl rfl (any_of HT_.out (by kernel_rfl)) (fun _ _ _ h => h) (Or.inl ⟨by rfl, ?_⟩) ?_ ?_
  rotate_left
  · intro w'
    go_simp
    with_reducible rfl
  rotate_left
  · simp only [Act.put, List.setIfInBounds_toArray, List.set_cons_zero, List.set_cons_succ, i64_w, i32_w]
    rfl
  refine pure_ (i := 20) (N := some 142) (v := ?_) (a' := ?_) #[true, true, true, true, true, true, true, true, true, true, true, true, true, true, true, true, true, true, true, true, true, false, false, false, false, false, false, false, false, false, false] rfl rfl (any_of HT_.out (by kernel_rfl)) (fun _ _ _ h => h) (Or.inl ⟨by rfl, ?_⟩) ?_ ?_
  rotate_left
  · intro w'
    go_simp
    with_reducible rfl
  rotate_left
  · simp only [Act.put, List.setIfInBounds_toArray, List.set_cons_zero, List.set_cons_succ, i64_w, i32_w]
    rfl
  refine pure_ (i := 21) (N := some 143) (v := ?_) (a' := ?_) #[true, true, true, true, true, true, true, true, true, true, true, true, true, true, true, true, true, true, true, true, true, true, false, false, false, false, false, false, false, false, false] rfl rfl (any_of HT_.out (by kernel_rfl)) (fun _ _ _ h => h) (Or.inl ⟨by rfl, ?_⟩) ?_ ?_
  rotate_left
  · intro w'
    go_simp
    with_reducible rfl
  rotate_left
  · simp only [Act.put, List.setIfInBounds_toArray, List.set_cons_zero, List.set_cons_succ, i64_w, i32_w]
    rfl
  refine pure_ (i := 22) (N := some 144) (v := ?_) (a' := ?_) #[true, true, true, true, true, true, true, true, true, true, true, true, true, true, true, true, true, true, true, true, true, true, true, false, false, false, false, false, false, false, false] rfl rfl (any_of HT_.out (by kernel_rfl)) (fun _ _ _ h => h) (Or.inl ⟨by rfl, ?_⟩) ?_ ?_
  rotate_left
  · intro w'
    go_simp
    with_reducible rfl
  rotate_left
  · simp only [Act.put, List.setIfInBounds_toArray, List.set_cons_zero, List.set_cons_succ, i64_w, i32_w]
    rfl
  refine pure_ (i := 23) (N := some 145) (v := ?_) (a' := ?_) #[true, true, true, true, true, true, true, true, true, true, true, true, true, true, true, true, true, true, true, true, true, true, true, true, false, false, false, false, false, false, false] rfl rfl (any_of HT_.out (by kernel_rfl)) (fun _ _ _ h => h) (Or.inl ⟨by rfl, ?_⟩) ?_ ?_
  rotate_left
  · intro w'
    go_simp
    with_reducible rfl
  rotate_left
  · simp only [Act.put, List.setIfInBounds_toArray, List.set_cons_zero, List.set_cons_succ, i64_w, i32_w]
    rfl
  refine take_ (i := 24) (N := some 146) (v := ?_) (a' := ?_) #[true, true, true, true, true, true, true, true, true, true, true, true, true, true, true, true, true, true, true, true, true, true, true, true, true, false, false, false, false, false, false] rfl rfl (take_ofW HT_.out HW_.out (by kernel_rfl)) (fun _ _ _ h => h) (Or.inl ⟨by rfl, ?_⟩) hHeld ?_ ?_
  rotate_left
  · rintro w' ⟨s0, s1, s2, s3, s4, s5, s6, s7, s8, s9⟩
    go_simp
    with_reducible rfl
  rotate_left
  · simp only [Act.put, List.setIfInBounds_toArray, List.set_cons_zero, List.set_cons_succ, i64_w, i32_w]
    rfl
  refine take_ (i := 26) (N := some 148) (v := ?_) (a' := ?_) #[true, true, true, true, true, true, true, true, true, true, true, true, true, true, true, true, true, true, true, true, true, true, true, true, true, false, true, false, false, false, false] rfl rfl (take_ofW HT_.out HW_.out (by kernel_rfl)) (fun _ _ _ h => h) (Or.inl ⟨by rfl, ?_⟩) hHeld ?_ ?_
  rotate_left
  · rintro w' ⟨s0, s1, s2, s3, s4, s5, s6, s7, s8, s9⟩
    go_simp
    with_reducible rfl
  rotate_left
  · simp only [Act.put, List.setIfInBounds_toArray, List.set_cons_zero, List.set_cons_succ, i64_w, i32_w]
    rfl
  refine one_ (i := 25) (N := some 147) #[true, true, true, true, true, true, true, true, true, true, true, true, true, true, true, true, true, true, true, true, true, true, true, true, true, true, true, false, false, false, false] rfl rfl (one_of HT_.out (by kernel_rfl)) (by decide) (fun K_ hK => ?_)
  refine goes_ Tryd.func27 (by kernel_rfl) rfl #[.agg #[.slice B0 F.length d0, .slice B1 L.length d1]] (by rfl) rfl rfl (by (try simp only [List.map_toArray, List.map_cons, List.map_nil]); first | done | rfl | (simp only [List.length_drop, List.length_take]; rfl)) ?_
  refine (feature_Check.calls B0 d0 F B1 d1 L ce _ D0.out E0.out D1.out E1.out CE.out).mono ?_
  rintro e wr2 ⟨rfl, hb⟩
  refine ⟨_, rfl, ?_⟩
  have n_ := Aside0.mk (Kd.C_below C0.out hb)
  clear C0
  have C0 := n_
  clear n_
  have n_ := Aside0.mk (Kd.C_below C1.out hb)
  clear C1
  have C1 := n_
  clear n_
  have n_ := Aside0.mk (Kd.C_below D0.out hb)
  clear D0
  have D0 := n_
  clear n_
  have n_ := Aside0.mk (Kd.C_below D1.out hb)
  clear D1
  have D1 := n_
  clear n_
  have n_ := Aside0.mk (Kd.R_below M.out hb)
  clear M
  have M := n_
  clear n_
  have n_ := Aside0.mk (Kd.R_below M2.out hb)
  clear M2
  have M2 := n_
  clear n_
  have n_ := Aside0.mk (Kd.R_below M3.out hb)
  clear M3
  have M3 := n_
  clear n_
  have n_ := Aside0.mk (blk_below KA.out hb)
  clear KA
  have KA := n_
  clear n_
  have n_ := Aside0.mk (blk_below KT.out hb)
  clear KT
  have KT := n_
  clear n_
  have n_ := Aside0.mk (blk_below KX.out hb)
  clear KX
  have KX := n_
  clear n_
  have n_ := Aside0.mk (blk_below KY.out hb)
  clear KY
  have KY := n_
  clear n_
  have n_ := Aside0.mk (below_step HB.out hb)
  clear HB
  have HB := n_
  clear n_
  have n_ := Aside0.mk (below_step HT.out hb)
  clear HT
  have HT := n_
  clear n_
  clear hb
  refine hK.out _ _ ⟨(blk_cell KX.out 0).trans rfl, (blk_cell KX.out 1).trans rfl, (blk_cell KX.out 2).trans rfl, (blk_cell KY.out 0).trans rfl, (blk_cell KY.out 1).trans rfl, (blk_cell KY.out 2).trans rfl, (blk_cell KT.out 0).trans rfl, (blk_cell KT.out 1).trans rfl, (blk_cell KA.out 0).trans rfl, (blk_cell KA.out 1).trans rfl⟩ (fun hHeld => ?_)
  clear hK K_
  refine norm_ (a' := ?_) ?_ ?_
  rotate_left
  · show Act.put _ (some 147) _ = _
    simp only [Act.put, List.setIfInBounds_toArray, List.set_cons_zero, List.set_cons_succ, i64_w, i32_w]
    rfl
  refine one_ (i := 27) (N := some 149) #[true, true, true, true, true, true, true, true, true, true, true, true, true, true, true, true, true, true, true, true, true, true, true, true, true, true, true, true, false, false, false] rfl rfl (one_of HT_.out (by kernel_rfl)) (by decide) (fun K_ hK => ?_)
  refine goes_ Tryd.func41 (by kernel_rfl) rfl #[.agg #[.slice A0_0 F.length c0_0, .slice A0_1 L.length c0_1]] (by rfl) rfl rfl (by (try simp only [List.map_toArray, List.map_cons, List.map_nil]); first | done | rfl | (simp only [List.length_drop, List.length_take]; rfl)) ?_
  refine (cognateref02_Check.calls q7 A0_0 c0_0 F A0_1 c0_1 L ce _ C0.out HC0.out C1.out HC1.out CR.out).mono ?_
  rintro e wr3 ⟨rfl, hb⟩
  refine ⟨_, rfl, ?_⟩
  have n_ := Aside0.mk (Kd.C_below C0.out hb)
  clear C0
  have C0 := n_
  clear n_
  have n_ := Aside0.mk (Kd.C_below C1.out hb)
  clear C1
  have C1 := n_
  clear n_
  have n_ := Aside0.mk (Kd.C_below D0.out hb)
  clear D0
  have D0 := n_
  clear n_
  have n_ := Aside0.mk (Kd.C_below D1.out hb)
  clear D1
  have D1 := n_
  clear n_
  have n_ := Aside0.mk (Kd.R_below M.out hb)
  clear M
  have M := n_
  clear n_
  have n_ := Aside0.mk (Kd.R_below M2.out hb)
  clear M2
  have M2 := n_
  clear n_
  have n_ := Aside0.mk (Kd.R_below M3.out hb)
  clear M3
  have M3 := n_
  clear n_
  have n_ := Aside0.mk (blk_below KA.out hb)
  clear KA
  have KA := n_
  clear n_
  have n_ := Aside0.mk (blk_below KT.out hb)
  clear KT
  have KT := n_
  clear n_
  have n_ := Aside0.mk (blk_below KX.out hb)
  clear KX
  have KX := n_
  clear n_
  have n_ := Aside0.mk (blk_below KY.out hb)
  clear KY
  have KY := n_
  clear n_
  have n_ := Aside0.mk (below_step HB.out hb)
  clear HB
  have HB := n_
  clear n_
  have n_ := Aside0.mk (below_step HT.out hb)
  clear HT
  have HT := n_
  clear n_
  clear hb
  refine hK.out _ _ ⟨(blk_cell KX.out 0).trans rfl, (blk_cell KX.out 1).trans rfl, (blk_cell KX.out 2).trans rfl, (blk_cell KY.out 0).trans rfl, (blk_cell KY.out 1).trans rfl, (blk_cell KY.out 2).trans rfl, (blk_cell KT.out 0).trans rfl, (blk_cell KT.out 1).trans rfl, (blk_cell KA.out 0).trans rfl, (blk_cell KA.out 1).trans rfl⟩ (fun hHeld => ?_)
  clear hK K_
  refine norm_ (a' := ?_) ?_ ?_
  rotate_left
  · show Act.put _ (some 149) _ = _
    simp only [Act.put, List.setIfInBounds_toArray, List.set_cons_zero, List.set_cons_succ, i64_w, i32_w]
    rfl
  refine pure_ (i := 28) (N := some 150) (v := ?_) (a' := ?_) #[true, true, true, true, true, true, true, true, true, true, true, true, true, true, true, true, true, true, true, true, true, true, true, true, true, true, true, true, true, false, false] rfl rfl (any_of HT_.out (by kernel_rfl)) (fun _ _ _ h => h) (Or.inl ⟨by rfl, ?_⟩) ?_ ?_
  rotate_left
  · intro w'
    go_simp
    with_reducible rfl
  rotate_left
  · simp only [Act.put, List.setIfInBounds_toArray, List.set_cons_zero, List.set_cons_succ, i64_w, i32_w]
    rfl
  refine pure_ (i := 29) (N := some 151) (v := ?_) (a' := ?_) #[true, true, true, true, true, true, true, true, true, true, true, true, true, true, true, true, true, true, true, true, true, true, true, true, true, true, true, true, true, true, false] rfl rfl (any_of HT_.out (by kernel_rfl)) (fun _ _ _ h => h) (Or.inl ⟨by rfl, ?_⟩) ?_ ?_
  rotate_left
  · intro w'
    go_simp
    with_reducible rfl
  rotate_left
  · simp only [Act.put, List.setIfInBounds_toArray, List.set_cons_zero, List.set_cons_succ, i64_w, i32_w]
    rfl
  refine pure_ (i := 30) (N := some 35) (v := ?_) (a' := ?_) #[true, true, true, true, true, true, true, true, true, true, true, true, true, true, true, true, true, true, true, true, true, true, true, true, true, true, true, true, true, true, true] rfl rfl (any_of HT_.out (by kernel_rfl)) (fun _ _ _ h => h) (Or.inl ⟨by rfl, ?_⟩) ?_ ?_
  rotate_left
  · intro w'
    go_simp
    with_reducible rfl
  rotate_left
  · simp only [Act.put, List.setIfInBounds_toArray, List.set_cons_zero, List.set_cons_succ, i64_w, i32_w]
    rfl
  refine done_ (done_of HT_.out (by kernel_rfl)) ?_
  obtain ⟨k4, hk4⟩ := AK.out
  have AQ := Aside0.mk hk4
  clear C0 C1 D0 D1 KA KT KX KY AK hk4 CE CR R1 R2 R3 R4 R5 T1 T2 T3 T4 T5 TW hHeld
  try go_wp2
  go_loopw [36] (fun v w' => ∃ (x : Int) (ys : List Int), v = .int .i64 x ∧ Aside0 (0 ≤ x) ∧ Aside0 (x ≤ (cl.length : Int)) ∧ Aside0 (ys.length = cl.length) ∧ Aside0 (Kd.R (Kd.int .i32) 21 w' (w2.alloc (.cells #[.slice B0 F.length d0, .slice B1 L.length d1] 25)).heap.size (fun _ => True) (.slice AM cl.length cM) ys) ∧ Aside0 (wr3.grownBy w' (Value.slice AM cl.length cM).ownBlock) ∧ Aside0 (Below (w2.alloc (.cells #[.slice B0 F.length d0, .slice B1 L.length d1] 25)).heap.size (w2.alloc (.cells #[.slice B0 F.length d0, .slice B1 L.length d1] 25)) w') ∧ Aside0 (Below w.heap.size w w')) (fun v _ => cl.length - (intOf v).toNat)
  case atStart => exact ⟨0, cl, rfl, ⟨by omega⟩, ⟨by omega⟩, ⟨rfl⟩, M, ⟨World.grownBy.refl _ _⟩, HT, HB⟩
  case round =>
    clear HB HT
    obtain ⟨x, ys, rfl, X0, X1, LY, HM, HG, HT, HB⟩ := hrel
    by_cases hc : x < (cl.length : Int)
    · have p0 : 0 ≤ x := X0.out
      have q0 : x < (cl.length : Int) := hc
      have i0 : decide (x < (cl.length : Int)) = true := decide_eq_true q0
      have i1 : decide (0 ≤ x) = true := decide_eq_true p0
      have hw : wrap64 (x + 1) = x + 1 := w64 (by have := LC.out; omega)
      have HW := Aside0.mk hw
      have X2 := Aside0.mk hc
      have hz : 0 < ys.length := by have := LY.out; omega
      clear hw hc
      obtain ⟨go, co, eo, gb, gl, cs_, hcs⟩ := Kd.R_form HM.out hz
      have e1 : AM = some ⟨go, 0, none⟩ := by injection eo
      subst e1
      have GB := Aside0.mk gb
      clear gb gl hcs eo hz
      obtain ⟨hx_0, hf_0⟩ := Kd.R_celln 0 HM.out x p0 q0
      replace p0 := eq_true p0
      replace q0 := eq_true q0
      have HP := Kd.R_putg HM.out x 81
      obtain ⟨zs, hzs⟩ : ∃ y_, y_ = ys.set x.toNat 81 := ⟨_, rfl⟩
      have Ny := Aside0.mk hzs
      clear hzs
      go_wp2
      go_roundw
      case rel =>
        refine ⟨wrap64 (x + 1), zs, (by first | rfl | (simp; done) | (simp [*]; done)), ⟨?_⟩, ⟨?_⟩, ⟨?_⟩, ⟨by rw [Ny.out]; exact HP.1⟩, ⟨HG.out.trans HP.2⟩, ⟨below_set HT.out GB.out⟩, ⟨below_set HB.out (Nat.le_trans ZT.out GB.out)⟩⟩
        · rw [HW.out]; have := X0.out; omega
        · rw [HW.out]; have := X2.out; omega
        · rw [Ny.out, List.length_set]; exact LY.out
      case measure =>
        have z0 := X0.out
        have z2 := X2.out
        simp only [intOf]
        rw [HW.out]
        omega
    · have i0 : decide (x < (cl.length : Int)) = false := decide_eq_false hc
      have i1 : (x < (cl.length : Int)) = False := eq_false hc
      obtain ⟨wo, hwo⟩ : ∃ wo : World, wo = wr := ⟨_, rfl⟩
      subst hwo
      have HM2 := Aside0.mk (classes_apart M2.out HG.out LM2.out)
      have HM3 := Aside0.mk (classes_apart M3.out HG.out LM3.out)
      clear hc X0 X1 LY HM M M2 M3 LM2 LM3
      go_wp2_with fail
      refine (cognateref02_Same.calls q6 AM2 cM2 cl AM3 cM3 cl true _ (Kd.R_reads' HM2.out).2.2 (Kd.R_reads' HM2.out).2.1 (Kd.R_reads' HM3.out).2.2 (Kd.R_reads' HM3.out).2.1 SA.out).mono ?_
      rintro e ws ⟨rfl, hb0⟩
      have hb := hb0.below
      have n_ := Aside0.mk (below_step HT.out hb)
      clear HT
      have HT := n_
      clear n_
      have n_ := Aside0.mk (below_step HB.out hb)
      clear HB
      have HB := n_
      clear n_ hb hb0 HM2 HM3 HG
      have C0 := Aside0.mk (Kd.C_below SC0.out HT.out)
      have C1 := Aside0.mk (Kd.C_below SC1.out HT.out)
      have D0 := Aside0.mk (Kd.C_below SD0.out HT.out)
      have D1 := Aside0.mk (Kd.C_below SD1.out HT.out)
      have KA := Aside0.mk (blk_below SKA.out HT.out)
      have KT := Aside0.mk (blk_below SKT.out HT.out)
      have k0 : ws.cell? ⟨w.heap.size, 0, none⟩ = some (.slice A0_0 F.length c0_0) := (blk_cell KA.out 0).trans rfl
      have k1 : ws.cell? ⟨w.heap.size, 1, none⟩ = some (.slice A0_1 L.length c0_1) := (blk_cell KA.out 1).trans rfl
      have k2 : ws.cell? ⟨w2.heap.size, 0, none⟩ = some (.slice B0 F.length d0) := (blk_cell KT.out 0).trans rfl
      have k3 : ws.cell? ⟨w2.heap.size, 1, none⟩ = some (.slice B1 L.length d1) := (blk_cell KT.out 1).trans rfl
      go_wp2_with fail
      refine (cognatelaw02_alike.calls k4 A0_0 c0_0 F A0_1 c0_1 L B0 d0 F B1 d1 L true _ C0.out HC0.out C1.out HC1.out D0.out E0.out D1.out E1.out AQ.out).mono ?_
      rintro e wu ⟨rfl, hb⟩
      have n_ := Aside0.mk (below_step HB.out hb)
      clear HB
      have HB := n_
      clear n_ hb k0 k1 k2 k3
      go_wp2
      go_ret
      exact ⟨rfl, HB.out⟩
end Go.Proofs.YtjnikjnkmcbjfaaDoor.X
