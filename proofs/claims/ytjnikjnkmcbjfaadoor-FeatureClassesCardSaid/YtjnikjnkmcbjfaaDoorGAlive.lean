/- cognatelaw02.alive, walked: what the document's examples say of features is so. -/
import Derived.Test.YtjnikjnkmcbjfaaDoorPFeat
import Derived.Test.YtjnikjnkmcbjfaaDoorGText
import Derived.Test.YtjnikjnkmcbjfaaDoorGParse
import Derived.Test.YtjnikjnkmcbjfaaDoorX7
namespace Go.Proofs.YtjnikjnkmcbjfaaDoor.X
open Go.RowKit Go.Proofs.YtjnikjnkmcbjfaaDoorW.PrintWords Go.Proofs.YtjnikjnkmcbjfaaDoorW.PrintLast Go.Proofs.YtjnikjnkmcbjfaaDoorW.PrintMore
def smF : List ByteArray := [⟨#[118, 111, 105, 99, 101, 100]⟩, ⟨#[110, 97, 115, 97, 108]⟩, ⟨#[118, 111, 119, 101, 108]⟩]
def smL : List S53 := [⟨112, 0, 7⟩, ⟨98, 1, 6⟩, ⟨109, 3, 4⟩, ⟨97, 5, 2⟩, ⟨104, 0, 0⟩]
theorem sample_eq : cognatelaw02_sample.f = some (smF, smL) := by kernel_rfl
theorem C_none {α : Type} (d : Kd α) (w : World) : Kd.C d w none 0 [] := ⟨rfl, by omega, fun h => absurd h (by omega)⟩
def cognatelaw02_alive.f : Option (Bool) := some true
set_option maxHeartbeats 4000000 in
set_option maxRecDepth 100000 in
theorem alive_any (w : World) : Calls Tryd.prog 25 #[] w fun e w' => e = .returned (.bool true) ∧ Below w.heap.size w w' := by
  obtain ⟨q1, hq1⟩ := (class_ev smF smL 1 4).rounds
  obtain ⟨q4, hq4⟩ := (least_ev smF smL [98, 109]).rounds
  rw [show classV smF smL 1 4 = ([98, 109], 0) by kernel_rfl] at hq1
  rw [show leastV smF smL [98, 109] = (1, 4, 0) by kernel_rfl] at hq4
  have Q1 := Aside0.mk hq1
  have Q2 := Aside0.mk (show feature_Near.f smF smL 98 2 1 = some (112, 0) by rw [near_eq]; kernel_rfl)
  have Q3 := Aside0.mk (show feature_Far.f smF smL 112 104 = some (3, 0) by rw [far_eq]; kernel_rfl)
  have Q4 := Aside0.mk hq4
  have Q5 := Aside0.mk (show feature_Text.f smF smL 1 6 = some (⟨#[43, 118, 111, 105, 99, 101, 100, 45, 110, 97, 115, 97, 108, 45, 118, 111, 119, 101, 108]⟩, 0) by kernel_rfl)
  have Q6 := Aside0.mk (show feature_Parse.f smF smL (⟨#[45, 118, 111, 119, 101, 108, 43, 118, 111, 105, 99, 101, 100]⟩ : ByteArray) = some (1, 4, 0, 0) by kernel_rfl)
  have Q7 := Aside0.mk (show feature_Parse.f smF smL (⟨#[43, 118, 111, 105, 99, 101, 100, 45, 118, 111, 105, 99, 101, 100]⟩ : ByteArray) = some (0, 0, 7, 20) by kernel_rfl)
  have Q8 := Aside0.mk (show feature_Has.f smF smL 98 1 2 = some (true, 0) by rw [has_eq]; kernel_rfl)
  have Q9 := Aside0.mk (show feature_Check.f smF smL = some 0 by kernel_rfl)
  have Q10 := Aside0.mk (show feature_Check.f [] [] = some 7 by kernel_rfl)
  clear hq1 hq4
  go_enter Tryd.func25, Tryd.ntmps25
  go_wp2_with fail
  refine (cognatelaw02_sample.calls smF smL _ sample_eq).mono ?_
  rintro e w1 ⟨v0, v1, rfl, h0, h1, hb⟩
  obtain ⟨A0, c0, rfl, hc0, hC0⟩ := Kd.R_reads h0
  obtain ⟨A1, c1, rfl, hc1, hC1⟩ := Kd.R_reads h1
  have HC0 := Aside0.mk hC0
  have HC1 := Aside0.mk hC1
  have H0 := Aside0.mk hc0
  have H1 := Aside0.mk hc1
  have B1 := Aside0.mk hb
  have W1 := Aside0.mk (below_alloc (Below.refl _ w1) (.cells #[.slice A0 smF.length c0, .slice A1 smL.length c1] 25))
  have K1 := Aside0.mk (blk_new w1 (.cells #[.slice A0 smF.length c0, .slice A1 smL.length c1] 25))
  have k10 : (w1.alloc (.cells #[.slice A0 smF.length c0, .slice A1 smL.length c1] 25)).cell? ⟨w1.heap.size, 0, none⟩ = some (.slice A0 smF.length c0) := (blk_cell K1.out 0).trans rfl
  have k11 : (w1.alloc (.cells #[.slice A0 smF.length c0, .slice A1 smL.length c1] 25)).cell? ⟨w1.heap.size, 1, none⟩ = some (.slice A1 smL.length c1) := (blk_cell K1.out 1).trans rfl
  clear h0 h1 hb hC0 hC1 hc0 hc1
  go_wp2_with fail
  refine (feature_Class.calls q1 A0 c0 smF A1 c1 smL 1 4 [98, 109] 0 _ (Kd.C_below HC0.out W1.out) H0.out (Kd.C_below HC1.out W1.out) H1.out Q1.out).mono ?_
  rintro e w2 ⟨vc, rfl, hvc, hb⟩
  have W2 := Aside0.mk (below_step W1.out hb)
  have K2 := Aside0.mk (blk_below K1.out hb)
  obtain ⟨Ac, cc, rfl, hcc, hCc⟩ := Kd.R_reads hvc
  have HCc := Aside0.mk hCc
  have V2 := Aside0.mk (Below.refl w2.heap.size w2)
  clear hvc hCc hcc
  have k20 : w2.cell? ⟨w1.heap.size, 0, none⟩ = some (.slice A0 smF.length c0) := (blk_cell K2.out 0).trans rfl
  have k21 : w2.cell? ⟨w1.heap.size, 1, none⟩ = some (.slice A1 smL.length c1) := (blk_cell K2.out 1).trans rfl
  clear hb k10 k11
  go_wp2_with fail
  refine (feature_Near.calls A0 c0 smF A1 c1 smL 98 2 1 112 0 _ (Kd.C_below HC0.out W2.out) H0.out (Kd.C_below HC1.out W2.out) H1.out Q2.out).mono ?_
  rintro e w3 ⟨rfl, hb⟩
  have W3 := Aside0.mk (below_step W2.out hb)
  have K3 := Aside0.mk (blk_below K2.out hb)
  have V3 := Aside0.mk (below_step V2.out hb)
  have k30 : w3.cell? ⟨w1.heap.size, 0, none⟩ = some (.slice A0 smF.length c0) := (blk_cell K3.out 0).trans rfl
  have k31 : w3.cell? ⟨w1.heap.size, 1, none⟩ = some (.slice A1 smL.length c1) := (blk_cell K3.out 1).trans rfl
  clear hb k20 k21
  go_wp2_with fail
  refine (feature_Far.calls A0 c0 smF A1 c1 smL 112 104 3 0 _ (Kd.C_below HC0.out W3.out) H0.out (Kd.C_below HC1.out W3.out) H1.out Q3.out).mono ?_
  rintro e w4 ⟨rfl, hb⟩
  have W4 := Aside0.mk (below_step W3.out hb)
  have K4 := Aside0.mk (blk_below K3.out hb)
  have V4 := Aside0.mk (below_step V3.out hb)
  have k40 : w4.cell? ⟨w1.heap.size, 0, none⟩ = some (.slice A0 smF.length c0) := (blk_cell K4.out 0).trans rfl
  have k41 : w4.cell? ⟨w1.heap.size, 1, none⟩ = some (.slice A1 smL.length c1) := (blk_cell K4.out 1).trans rfl
  clear hb k30 k31
  have W5 := Aside0.mk (below_alloc W4.out (.cells #[.int .i32 98, .int .i32 109] 21))
  have V5 := Aside0.mk (below_alloc V4.out (.cells #[.int .i32 98, .int .i32 109] 21))
  have K5 := Aside0.mk (blk_alloc K4.out (.cells #[.int .i32 98, .int .i32 109] 21))
  have X5 := Aside0.mk (blk_new w4 (.cells #[.int .i32 98, .int .i32 109] 21))
  have k50 : (w4.alloc (.cells #[.int .i32 98, .int .i32 109] 21)).cell? ⟨w1.heap.size, 0, none⟩ = some (.slice A0 smF.length c0) := (blk_cell K5.out 0).trans rfl
  have k51 : (w4.alloc (.cells #[.int .i32 98, .int .i32 109] 21)).cell? ⟨w1.heap.size, 1, none⟩ = some (.slice A1 smL.length c1) := (blk_cell K5.out 1).trans rfl
  have R5 := Aside0.mk (Kd.C_of_reads (enc := Value.int .i32) (d := (0 : Int)) (h1 := fun _ => rfl) (w := w4.alloc (.cells #[.int .i32 98, .int .i32 109] 21)) (A := some ⟨w4.heap.size, 0, none⟩) (n := [98, 109].length) (xs := [98, 109]) ⟨rfl, by decide, fun _ => ⟨⟨w4.heap.size, 0, none⟩, rfl, fun j hj => by
    have h2 : j < 2 := hj
    rcases j with _ | _ | j
    · exact (blk_cell X5.out 0).trans rfl
    · exact (blk_cell X5.out 1).trans rfl
    · omega⟩⟩)
  go_wp2_with fail
  refine (feature_Least.calls q4 A0 c0 smF A1 c1 smL (some ⟨w4.heap.size, 0, none⟩) 2 [98, 109] 1 4 0 _ (Kd.C_below HC0.out W5.out) H0.out (Kd.C_below HC1.out W5.out) H1.out R5.out (Nat.le_refl _) Q4.out).mono ?_
  rintro e w6 ⟨rfl, hb⟩
  have W6 := Aside0.mk (below_step W5.out hb)
  have V6 := Aside0.mk (below_step V5.out hb)
  have K6 := Aside0.mk (blk_below K5.out hb)
  have k60 : w6.cell? ⟨w1.heap.size, 0, none⟩ = some (.slice A0 smF.length c0) := (blk_cell K6.out 0).trans rfl
  have k61 : w6.cell? ⟨w1.heap.size, 1, none⟩ = some (.slice A1 smL.length c1) := (blk_cell K6.out 1).trans rfl
  clear hb k50 k51 k40 k41
  go_wp2_with fail
  refine (feature_Text.calls A0 c0 smF A1 c1 smL 1 6 _ 0 _ (Kd.C_below HC0.out W6.out) H0.out (Kd.C_below HC1.out W6.out) H1.out Q5.out).mono ?_
  rintro e w7 ⟨rfl, hb⟩
  have W7 := Aside0.mk (below_step W6.out hb)
  have V7 := Aside0.mk (below_step V6.out hb)
  have K7 := Aside0.mk (blk_below K6.out hb)
  have k70 : w7.cell? ⟨w1.heap.size, 0, none⟩ = some (.slice A0 smF.length c0) := (blk_cell K7.out 0).trans rfl
  have k71 : w7.cell? ⟨w1.heap.size, 1, none⟩ = some (.slice A1 smL.length c1) := (blk_cell K7.out 1).trans rfl
  clear hb k60 k61
  go_wp2_with fail
  refine (feature_Parse.calls A0 c0 smF A1 c1 smL _ 1 4 0 0 _ (Kd.C_below HC0.out W7.out) H0.out (Kd.C_below HC1.out W7.out) H1.out Q6.out).mono ?_
  rintro e w8 ⟨rfl, hb⟩
  have W8 := Aside0.mk (below_step W7.out hb)
  have V8 := Aside0.mk (below_step V7.out hb)
  have K8 := Aside0.mk (blk_below K7.out hb)
  have k80 : w8.cell? ⟨w1.heap.size, 0, none⟩ = some (.slice A0 smF.length c0) := (blk_cell K8.out 0).trans rfl
  have k81 : w8.cell? ⟨w1.heap.size, 1, none⟩ = some (.slice A1 smL.length c1) := (blk_cell K8.out 1).trans rfl
  clear hb k70 k71
  go_wp2_with fail
  refine (feature_Parse.calls A0 c0 smF A1 c1 smL _ 0 0 7 20 _ (Kd.C_below HC0.out W8.out) H0.out (Kd.C_below HC1.out W8.out) H1.out Q7.out).mono ?_
  rintro e w9 ⟨rfl, hb⟩
  have W9 := Aside0.mk (below_step W8.out hb)
  have V9 := Aside0.mk (below_step V8.out hb)
  have K9 := Aside0.mk (blk_below K8.out hb)
  have k90 : w9.cell? ⟨w1.heap.size, 0, none⟩ = some (.slice A0 smF.length c0) := (blk_cell K9.out 0).trans rfl
  have k91 : w9.cell? ⟨w1.heap.size, 1, none⟩ = some (.slice A1 smL.length c1) := (blk_cell K9.out 1).trans rfl
  clear hb k80 k81
  go_wp2_with fail
  refine (feature_Has.calls A0 c0 smF A1 c1 smL 98 1 2 true 0 _ (Kd.C_below HC0.out W9.out) H0.out (Kd.C_below HC1.out W9.out) H1.out Q8.out).mono ?_
  rintro e w10 ⟨rfl, hb⟩
  have W10 := Aside0.mk (below_step W9.out hb)
  have V10 := Aside0.mk (below_step V9.out hb)
  have K10 := Aside0.mk (blk_below K9.out hb)
  have k100 : w10.cell? ⟨w1.heap.size, 0, none⟩ = some (.slice A0 smF.length c0) := (blk_cell K10.out 0).trans rfl
  have k101 : w10.cell? ⟨w1.heap.size, 1, none⟩ = some (.slice A1 smL.length c1) := (blk_cell K10.out 1).trans rfl
  clear hb k90 k91
  obtain ⟨ad, hAd, cells⟩ := (Kd.reads_of_C (enc := Value.int .i32) (d := (0 : Int)) (h1 := fun _ => rfl) (Kd.C_below HCc.out V10.out)).2.2 (by decide)
  subst hAd
  have x0 : w10.cell? ad = some (.int .i32 98) := cells 0 (by decide)
  have x1 : w10.cell? ⟨ad.block, ad.off + 1, none⟩ = some (.int .i32 109) := cells 1 (by decide)
  have hlen : ([98, 109] : List Int).length = 2 := rfl
  rw [hlen] at *
  clear cells hlen
  go_wp2_with fail
  refine (feature_Check.calls A0 c0 smF A1 c1 smL 0 _ (Kd.C_below HC0.out W10.out) H0.out (Kd.C_below HC1.out W10.out) H1.out Q9.out).mono ?_
  rintro e w11 ⟨rfl, hb⟩
  have W11 := Aside0.mk (below_step W10.out hb)
  clear hb k100 k101
  go_wp2_with fail
  refine (feature_Check.calls none 0 [] none 0 [] 7 _ (C_none _ _) (Nat.le_refl _) (C_none _ _) (Nat.le_refl _) Q10.out).mono ?_
  rintro e w12 ⟨rfl, hb⟩
  have W12 := Aside0.mk (below_step W11.out hb)
  clear hb
  go_wp2
  go_ret
  exact ⟨rfl, below_then B1.out B1.out.size W12.out⟩
theorem cognatelaw02_alive.calls (r : Bool) (w : World) (h : cognatelaw02_alive.f = some r) : Calls Tryd.prog 25 #[] w fun e w' => e = .returned (.bool r) ∧ Below w.heap.size w w' := by
  obtain rfl := Option.some.inj h
  exact alive_any w
theorem alive_ev : Ev (fun _ => cognatelaw02_alive.f) true := Ev.now true
end Go.Proofs.YtjnikjnkmcbjfaaDoor.X
