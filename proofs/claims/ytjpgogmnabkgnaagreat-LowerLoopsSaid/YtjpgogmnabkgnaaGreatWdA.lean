/- Operations of two by their contracts; what is asked of numbers. -/
import Derived.Test.YtjpgogmnabkgnaaGreatCutA
import Derived.Test.YtjpgogmnabkgnaaGreatTnC
import Derived.Test.YtjpgogmnabkgnaaGreatTnE
import Derived.Test.YtjpgogmnabkgnaaGreatVh
namespace Go.Proofs.YtjpgogmnabkgnaaGreat
open Go.RowKit Go.Proofs.YtjpgogmnabkgnaaGreat.Ev

/-- what a contract tells -/
def appW (g : Nat) (a b : Int) : Int := IntKind.i64.wrap (twoF g a b)

theorem app64 (g : Nat) (a b : Int) : -9223372036854775808 ≤ appW g a b ∧ appW g a b ≤ 9223372036854775807 := wrap_in .i64 _

abbrev Asks := List (Tm × Tm × Bool)

def lookA : Asks → Tm → Tm → Option Bool
  | [], _, _ => none
  | (x, y, r) :: l, a, b => match and (eqTm x a) (eqTm y b) with
    | true => some r
    | false => lookA l a b

theorem lookA_ok {q : Tm → Tm → Bool} : ∀ {l : Asks}, (∀ x ∈ l, q x.1 x.2.1 = x.2.2) → ∀ {a b : Tm} {r : Bool}, lookA l a b = some r → q a b = r
  | [], _, _, _, _, h => by cases h
  | (x, y, s) :: l, hl, a, b, r, h => by
    simp only [lookA] at h
    split at h
    · rename_i hc
      simp only [Bool.and_eq_true] at hc
      injection h with h
      subst h
      have e1 := eqTm_eq _ _ hc.1
      have e2 := eqTm_eq _ _ hc.2
      subst e1 e2
      exact hl _ List.mem_cons_self
    · exact lookA_ok (fun z hz => hl z (List.mem_cons_of_mem _ hz)) h

theorem wrap64_eq (x : Int) : IntKind.i64.wrap x = wrap64 x := by
  simp only [IntKind.wrap, IntKind.bits, IntKind.signed, Bool.true_and, decide_eq_true_eq, Int.reducePow, Nat.reduceSub, ge_iff_le, wrap64]
  split <;> omega

theorem I64r_of {x : Int} (h : I64 x) : I64r x := h

theorem app_two (op : Nat) (a b : Int) (ha : I64 a) (hb : I64 b) (_h1 : 12 ≤ op) (_h2 : op ≤ 30) : appW op a b = twoF op a b := by
  unfold appW
  have h := num2_rng (op := op) (I64r_of ha) (I64r_of hb)
  exact wrap_id h.1 h.2

theorem two12 (a b : Int) : twoF 12 a b = IntKind.i64.wrap (a + b) := by
  rw [wrap64_eq]
  unfold twoF divF
  simp
theorem two13 (a b : Int) : twoF 13 a b = IntKind.i64.wrap (a - b) := by
  rw [wrap64_eq]
  unfold twoF divF
  simp
theorem two14 (a b : Int) : twoF 14 a b = IntKind.i64.wrap (a * b) := by
  rw [wrap64_eq]
  unfold twoF divF
  simp

theorem two_num (op a b : Int) (w : World) (_h : 12 ≤ op ∧ op ≤ 30) (ha : I64 a) (hb : I64 b) : Calls Tryz.prog 246 #[.int .i64 op, .int .i64 a, .int .i64 b] w fun e w' => e = .returned (.int .i64 (twoF op a b)) ∧ Below w.heap.size w w' :=
  (num2_any op a b (I64r_of ha) (I64r_of hb) w).mono fun _ _ ⟨he, m, hm⟩ => ⟨he, by rw [hm]; exact below_drewN (Below.refl _ _) m⟩
theorem two_bin (op a b : Int) (w : World) (h : 12 ≤ op ∧ op ≤ 30) (ha : I64 a) (hb : I64 b) : Calls Tryz.prog 218 #[.int .i64 op, .int .i64 a, .int .i64 b] w fun e w' => e = .returned (.int .i64 (twoF op a b)) ∧ Below w.heap.size w w' :=
  (bin_any op a b h (I64r_of ha) (I64r_of hb) w).mono fun _ _ ⟨he, m, hm⟩ => ⟨he, by rw [hm]; exact below_drewN (Below.refl _ _) m⟩

/-- an op of two by its contract, whichever function it is -/
def TwoOk (f : FuncId) : Prop := ∀ (op a b : Int) (w : World), 12 ≤ op ∧ op ≤ 30 → I64 a → I64 b → Calls Tryz.prog f #[.int .i64 op, .int .i64 a, .int .i64 b] w fun e w' => e = .returned (.int .i64 (twoF op a b)) ∧ Below w.heap.size w w'

/-- those functions -/
def twos : List Nat := 246 :: (
  218 :: --?
  [])
theorem twos_nil : ∀ f ∈ ([] : List Nat), TwoOk f := fun _ h => by cases h
theorem twos_cons {g : Nat} {l : List Nat} (h : TwoOk g) (hl : ∀ f ∈ l, TwoOk f) : ∀ f ∈ g :: l, TwoOk f := fun f hf => by
  rcases List.mem_cons.1 hf with rfl | hf
  · exact h
  · exact hl f hf
theorem twos_ok : ∀ f ∈ twos, TwoOk f :=
  twos_cons two_num (
  (fun h => twos_cons (g := 218) two_bin h) --?
  twos_nil)

def isIn (f : Nat) : List Nat → Bool
  | [] => false
  | g :: l => or (Nat.beq f g) (isIn f l)
theorem isIn_ok {f : Nat} : ∀ {l : List Nat}, isIn f l = true → f ∈ l
  | [], h => by cases h
  | g :: l, h => by
    simp only [isIn, Bool.or_eq_true, Nat.beq_eq] at h
    rcases h with rfl | h
    · exact List.mem_cons_self
    · exact List.mem_cons_of_mem _ (isIn_ok h)

/-- calls that are known by their contracts -/
def knownTwo [SEnv] : Known := fun f args h => match isIn f twos with
  | true => kTwo args h
  | false => match Nat.beq f 118 with
    | true => kCut args h
    | false => none

abbrev K0 : Keep := Keep.none

theorem knownTwo_ok [SEnv] (happ : ∀ (op : Nat) (a b : Int), I64 a → I64 b → 12 ≤ op → op ≤ 30 → SEnv0.app op a b = twoF op a b) : knownTwo.Ok Tryz.prog K0 := by
  intro f args h v h' hr
  unfold knownTwo at hr
  split at hr
  · rename_i hf
    exact kTwo_ok (twos_ok f (isIn_ok hf)) two12 two13 two14 happ hr
  · split at hr
    · rename_i hf
      obtain rfl : f = 118 := by simpa using hf
      exact kCut_ok (fun n s k a w hk _ => cut_any n s k a w hk) hr
    · cases hr

end Go.Proofs.YtjpgogmnabkgnaaGreat
