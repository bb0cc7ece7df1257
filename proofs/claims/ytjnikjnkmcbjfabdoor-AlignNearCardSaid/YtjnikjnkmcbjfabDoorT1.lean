/- Words on maps that a call makes: a map's block, told by a function from keys to what stands there. -/
import Derived.Test.YtjnikjnkmcbjfabDoorX0
import Derived.Maps.OwnSet
import Derived.Maps.OwnOps
namespace Go.Proofs.YtjnikjnkmcbjfabDoor.X
open Go.RowKit Go.Maps Go.Proofs.YtjnikjnkmcbjfabDoorW.PrintWords
section
variable {P : Program} {k : TypeId} {R : Value → Option (DataW Unit × List MemPlace)} {w w1 : World} {b n : Nat} {g : Lit → Option (DataW Unit)}
/-- Block b is a map of at most n entries; at each key stands what g tells. -/
def MapFn (P : Program) (k : TypeId) (R : Value → Option (DataW Unit × List MemPlace)) (w : World) (b n : Nat) (g : Lit → Option (DataW Unit)) : Prop :=
  ∃ D : DataW Unit, w.ownsMap P k R b n D ∧ IsMap D ∧ ∀ kl, WideAt.IsKeyLit kl → Maps.has D kl = (g kl).isSome ∧ ∀ z, D.atKey kl z = (g kl).getD z
theorem MapFn.made (P : Program) (k : TypeId) (R : Value → Option (DataW Unit × List MemPlace)) (w : World) : MapFn P k R (w.alloc (.map #[] 0)) w.heap.size 0 (fun _ => none) :=
  ⟨.map [], World.ownsMap_made w P k R, isMap_empty, fun _ _ => ⟨rfl, fun _ => rfl⟩⟩
theorem MapFn.lt (h : MapFn P k R w b n g) : b < w.heap.size := by
  obtain ⟨D, h, _⟩ := h
  exact h.lt
theorem MapFn.kept {row : Option Nat} (h : MapFn P k R w b n g) (hg : w.grownBy w1 row) (hne : some b ≠ row) : MapFn P k R w1 b n g := by
  obtain ⟨D, h, r⟩ := h
  exact ⟨D, h.kept hg hne, r⟩
theorem MapFn.below (h : MapFn P k R w b n g) (hb : Below w.heap.size w w1) : MapFn P k R w1 b n g := h.kept (grown_of_below hb none) (by simp)
theorem MapFn.alloc (h : MapFn P k R w b n g) (o : Obj) : MapFn P k R (w.alloc o) b n g := h.below (below_alloc (Below.refl _ _) o)
theorem MapFn.drewN (h : MapFn P k R w b n g) (m : Nat) : MapFn P k R (w.drewN m) b n g := h
theorem MapFn.setCell (h : MapFn P k R w b n g) {a : Addr} (ha : b ≠ a.block) (u : Value) : MapFn P k R (w.setCell a u) b n g := by
  obtain ⟨D, h, r⟩ := h
  exact ⟨D, h.setCell ha u, r⟩
theorem MapFn.mono (h : MapFn P k R w b n g) {m : Nat} (hm : n ≤ m) : MapFn P k R w b m g := by
  obtain ⟨D, h, r⟩ := h
  exact ⟨D, h.mono hm, r⟩
/-- 'm[k]'. -/
theorem MapFn.look {t e : TypeId} (h : MapFn P k R w b n g) (K : Keyed P k) (ht : P.underlying t = some (.map k e)) {z : Value} (hz : (zeroValue e).run P w = .ok z w) {zd : DataW Unit} {zp : List MemPlace} (hzd : R z = some (zd, zp))
    {key : Value} {kl : Lit} (hkey : keyOf P k key = some kl) : ∃ v ps, (Instr.lookup t (.map (some b)) key false).run P w = .ok v w ∧ R v = some ((g kl).getD zd, ps) := by
  obtain ⟨D, h, _, hg⟩ := h
  obtain ⟨v, ps, hrun, hv⟩ := h.lookup K ht hz hzd hkey
  exact ⟨v, ps, hrun, by rw [hv, (hg kl (K.key hkey)).2]⟩
/-- 'v, ok := m[k]'. -/
theorem MapFn.look_ok {t e : TypeId} (h : MapFn P k R w b n g) (K : Keyed P k) (ht : P.underlying t = some (.map k e)) {z : Value} (hz : (zeroValue e).run P w = .ok z w) {zd : DataW Unit} {zp : List MemPlace} (hzd : R z = some (zd, zp))
    {key : Value} {kl : Lit} (hkey : keyOf P k key = some kl) : ∃ v ps, (Instr.lookup t (.map (some b)) key true).run P w = .ok (.tuple #[v, .bool (g kl).isSome]) w ∧ R v = some ((g kl).getD zd, ps) := by
  obtain ⟨D, h, _, hg⟩ := h
  obtain ⟨v, ps, hrun, hv⟩ := h.look_ok K ht hz hzd hkey
  exact ⟨v, ps, by rw [hrun, (hg kl (K.key hkey)).1], by rw [hv, (hg kl (K.key hkey)).2]⟩
open Classical in
/-- 'm[k] = v'. -/
theorem MapFn.put {t e : TypeId} (h : MapFn P k R w b n g) (K : Keyed P k) (ht : P.underlying t = some (.map k e)) (hn : n < maxLen) {key val : Value} {kl : Lit} {d : DataW Unit} {ps : List MemPlace}
    (hkey : keyOf P k key = some kl) (hv : R val = some (d, ps)) : ∃ w', (Instr.mapUpdate t (.map (some b)) key val).run P w = .ok () w' ∧ MapFn P k R w' b (n + 1) (fun x => if x = kl then some d else g x) ∧ w.grownBy w' (some b) := by
  obtain ⟨D, h, hm, hg⟩ := h
  obtain ⟨w', hrun, h', hgr⟩ := h.update K ht hn hkey hv
  refine ⟨w', hrun, ⟨_, h', hm.put _ _, fun x hx => ?_⟩, hgr⟩
  by_cases e : x = kl
  · subst e
    simp only [if_true]
    exact ⟨has_put_same hm (K.key hkey) d, fun z => atKey_put_same hm (K.key hkey) d z⟩
  · simp only [if_neg e]
    refine ⟨?_, fun z => ?_⟩
    · rw [has_put_other e]
      exact (hg x hx).1
    · rw [atKey_put_other e]
      exact (hg x hx).2 z
end
theorem plainElem_bool_inv {P : Program} {e : TypeId} (he : P.underlying e = some .bool) {v : Value} {z : DataW Unit × List MemPlace} (h : plainElem P e v = some z) : ∃ x, v = .bool x ∧ z = (.lit (.bool x), []) := by
  unfold plainElem at h
  rw [he] at h
  cases v <;> simp at h
  exact ⟨_, rfl, h.symm⟩
/-- A set: true at the keys of p. -/
theorem MapFn.look_bool {P : Program} {k t e : TypeId} {w : World} {b n : Nat} {g : Lit → Option (DataW Unit)} (h : MapFn P k (plainElem P e) w b n g) (K : Keyed P k) (ht : P.underlying t = some (.map k e)) (he : P.underlying e = some .bool)
    (hz : (zeroValue e).run P w = .ok (.bool false) w) {key : Value} {kl : Lit} (hkey : keyOf P k key = some kl) (x : Bool) (hx : g kl = some (.lit (.bool x)) ∨ g kl = none ∧ x = false) :
    (Instr.lookup t (.map (some b)) key false).run P w = .ok (.bool x) w := by
  obtain ⟨v, ps, hrun, hv⟩ := h.look K ht hz (plainElem_bool he false) hkey
  obtain ⟨y, rfl, hy⟩ := plainElem_bool_inv he hv
  simp only [Prod.mk.injEq] at hy
  rw [hrun]
  rcases hx with hx | ⟨hx, rfl⟩
  · rw [hx] at hy
    simp only [Option.getD_some, DataW.lit.injEq, Lit.bool.injEq] at hy
    rw [← hy.1]
  · rw [hx] at hy
    simp only [Option.getD_none, DataW.lit.injEq, Lit.bool.injEq] at hy
    rw [← hy.1]
end Go.Proofs.YtjnikjnkmcbjfabDoor.X
