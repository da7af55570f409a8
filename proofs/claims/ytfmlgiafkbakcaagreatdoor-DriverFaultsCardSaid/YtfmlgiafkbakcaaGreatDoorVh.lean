/- A closed law: what the evaluator says, the program does; arguments that play no part. -/
import Derived.Test.YtfmlgiafkbakcaaGreatDoorRows
import Derived.ProofKit
import Derived.HandedShaped
import Derived.Test.YtfmlgiafkbakcaaGreatDoorVg
namespace Go.Proofs.YtfmlgiafkbakcaaGreatDoor
open Go.ChangeShapes Go.WideShapes Go.ChangeAt Go.RowKit Go.Proofs.YtfmlgiafkbakcaaGreatDoor.Ev

def okB (r : O) : Bool := match r with
  | .ok (.bool true) _ => true
  | _ => false

theorem okB_spec {r : O} (h : okB r = true) : ∃ h', r = .ok (.bool true) h' := by
  unfold okB at h
  split at h
  · exact ⟨_, rfl⟩
  · cases h

theorem empty_hr (w : World) : HR ⟨.nil, 0⟩ (fun _ => none) w :=
  ⟨fun id o h => (by cases h), fun i j oi oj a b h => (by cases h), fun id _ => ⟨rfl, rfl⟩, fun id l h => (by cases h)⟩

/-- a closed law: what the evaluator says, the program does -/
theorem closed_law {P : Program} [LaidOut P] (hm : P.follows .mixedOrders = true) {K : Keep} {X : Known} (hX : X.Ok P K) {T : Tab} (hT : T.Ok P K) {n : Nat} {f : FuncId} {l : AV} (h : okB (callT P X T n f l ⟨.nil, 0⟩) = true) {vs : Array Value} (hv : VRl (fun _ => none) l vs.toList) (w : World) (hK : K.ok ⟨.nil, 0⟩ (fun _ => none) w) :
    Calls P f vs w fun e w' => e = .returned (.bool true) ∧ Below w.heap.size w w' := by
  obtain ⟨h', hr⟩ := okB_spec h
  refine (callT_ok hm hX hT n f _ _ _ _ hr (fun _ => none) w vs (empty_hr w) hK hv).mono fun e w' ⟨ι', u, he, hv, _, hs⟩ => ?_
  have hu : u = .bool true := hv
  subst hu
  exact ⟨he, hs.os, hs.tape, hs.output, hs.size, fun g hg => hs.blk g hg fun ⟨id, l, h1, _⟩ => by cases h1⟩

/-- a slice, whatever it holds -/
theorem arg_slice {P : Program} {w : World} {r : Reach} {base : Nat} {t e : TypeId} {v : Value} (ht : P.underlying t = some (.slice e)) (h : Value.okWide P w r base t v) : ∃ len, VRl (fun _ => none) (.cons (.slen len) .nil) [v] := by
  obtain ⟨a, len, cap, rfl⟩ := okWide_slice ht h
  exact ⟨len, _, _, rfl, ⟨a, cap, rfl⟩, rfl⟩

theorem cell_slice {P : Program} {w : World} {r : Reach} {base : Nat} {t e : TypeId} {v : Value} (ht : P.underlying t = some (.slice e)) (h : Cell.okWide P w r base t v) : ∃ a len cap, v = .slice a len cap := by
  simp only [Cell.okWide, ht] at h
  cases v <;> simp_all [Cell.ok]

theorem cell_int {P : Program} {w : World} {r : Reach} {base : Nat} {t : TypeId} {k : IntKind} {v : Value} (ht : P.underlying t = some (.int k)) (h : Cell.okWide P w r base t v) : ∃ n, v = .int k n := by
  simp only [Cell.okWide, ht] at h
  cases v <;> simp_all [Cell.ok]

/-- two slices and a number -/
theorem arg_ask3 {P : Program} {w : World} {r : Reach} {base : Nat} {t ta tb tc ea eb : TypeId} {fs : Array Field} {k : IntKind} {v : Value} (ht : P.underlying t = some (.struct fs)) (hc : P.cellsOf t = 3) (hts : P.cellTypes P.depth t = some [ta, tb, tc]) (ha : P.underlying ta = some (.slice ea)) (hb : P.underlying tb = some (.slice eb)) (hk : P.underlying tc = some (.int k)) (h : Value.okWide P w r base t v) :
    ∃ la lb n, VRl (fun _ => none) (.cons (.agg (.cons (.slen la) (.cons (.slen lb) (.cons (.int k n) .nil)))) .nil) [v] := by
  simp only [Value.okWide, ht] at h
  obtain ⟨⟨cs⟩, rfl, hsz, ts, h1, _, h2⟩ := h
  rw [hts] at h1
  injection h1 with h1
  subst h1
  rw [hc] at hsz
  match cs, hsz with
  | [x, y, z], _ =>
    obtain ⟨u, q1, q2⟩ := h2 0 x rfl
    obtain ⟨u', q3, q4⟩ := h2 1 y rfl
    obtain ⟨u'', q5, q6⟩ := h2 2 z rfl
    cases (show some ta = some u from q1)
    cases (show some tb = some u' from q3)
    cases (show some tc = some u'' from q5)
    obtain ⟨a1, l1, c1, rfl⟩ := cell_slice ha q2
    obtain ⟨a2, l2, c2, rfl⟩ := cell_slice hb q4
    obtain ⟨n, rfl⟩ := cell_int hk q6
    refine ⟨l1, l2, n, _, _, rfl, ⟨[_, _, _], rfl, ⟨_, _, rfl, ⟨a1, c1, rfl⟩, _, _, rfl, ⟨a2, c2, rfl⟩, _, _, rfl, rfl, rfl⟩, ?_⟩, rfl⟩
    intro u hu
    simp only [List.mem_cons, List.not_mem_nil, or_false] at hu
    rcases hu with rfl | rfl | rfl <;> rfl

theorem own : ownKnob Tryz.prog.godebug = none := by kernel_rfl
theorem laidOut : laidOutB Tryz.prog = true := by kernel_rfl
instance : LaidOut Tryz.prog := ⟨laidOut⟩
theorem mixed : Tryz.prog.follows .mixedOrders = true := by kernel_rfl

end Go.Proofs.YtfmlgiafkbakcaaGreatDoor
