/- What comes in, decoded: texts, patterns, rules, the questions. -/
import Derived.Test.YthdicdkgfmiepaaGreatDoorRuK
namespace Go.Proofs.YthdicdkgfmiepaaGreatDoor
open Go.RowKit

section
variable {P : Program} {t : TypeId} {d : D}
theorem hasTy_int {k : IntKind} (hu : P.underlying t = some (.int k)) (h : HasTy P d t) : ∃ n, d = .int k n ∧ (Lit.int k n).wf = true := by
  cases d with
  | int k' n => unfold HasTy at h; rw [hu] at h; obtain ⟨h1, h2⟩ := h; injection h1 with h1; injection h1 with h1; subst h1; exact ⟨n, rfl, h2⟩
  | bool b => unfold HasTy at h; rw [hu] at h; injection h with h; cases h
  | str s => unfold HasTy at h; rw [hu] at h; injection h.1 with h; cases h
  | st fs => unfold HasTy at h; obtain ⟨fs', h, _⟩ := h; rw [hu] at h; injection h with h; cases h
  | lst z xs => unfold HasTy at h; obtain ⟨e, h, _⟩ := h; rw [hu] at h; injection h with h; cases h
theorem hasTy_bool (hu : P.underlying t = some .bool) (h : HasTy P d t) : ∃ b, d = .bool b := by
  cases d with
  | int k' n => unfold HasTy at h; rw [hu] at h; injection h.1 with h; cases h
  | bool b => exact ⟨b, rfl⟩
  | str s => unfold HasTy at h; rw [hu] at h; injection h.1 with h; cases h
  | st fs => unfold HasTy at h; obtain ⟨fs', h, _⟩ := h; rw [hu] at h; injection h with h; cases h
  | lst z xs => unfold HasTy at h; obtain ⟨e, h, _⟩ := h; rw [hu] at h; injection h with h; cases h
theorem hasTy_str (hu : P.underlying t = some .string) (h : HasTy P d t) : ∃ s, d = .str s ∧ s.length ≤ reachBytes := by
  cases d with
  | int k' n => unfold HasTy at h; rw [hu] at h; injection h.1 with h; cases h
  | bool b => unfold HasTy at h; rw [hu] at h; injection h with h; cases h
  | str s => unfold HasTy at h; exact ⟨s, rfl, h.2⟩
  | st fs => unfold HasTy at h; obtain ⟨fs', h, _⟩ := h; rw [hu] at h; injection h with h; cases h
  | lst z xs => unfold HasTy at h; obtain ⟨e, h, _⟩ := h; rw [hu] at h; injection h with h; cases h
theorem hasTy_st {fs : Array Field} (hu : P.underlying t = some (.struct fs)) (h : HasTy P d t) : ∃ ds, d = .st ds ∧ HasTys P ds (fs.toList.map (·.type)) := by
  cases d with
  | int k' n => unfold HasTy at h; rw [hu] at h; injection h.1 with h; cases h
  | bool b => unfold HasTy at h; rw [hu] at h; injection h with h; cases h
  | str s => unfold HasTy at h; rw [hu] at h; injection h.1 with h; cases h
  | st ds => unfold HasTy at h; obtain ⟨fs', h, h2⟩ := h; rw [hu] at h; injection h with h; injection h with h; subst h; exact ⟨ds, rfl, h2⟩
  | lst z xs => unfold HasTy at h; obtain ⟨e, h, _⟩ := h; rw [hu] at h; injection h with h; cases h
theorem hasTy_lst {e : TypeId} {z b : Nat} (hu : P.underlying t = some (.slice e)) (hz0 : P.cellsOf e = z) (hb0 : P.bytesOf e = b) (h : HasTy P d t) : ∃ ds, d = .lst z ds ∧ ds.length * b ≤ reachBytes ∧ AllTy P ds e := by
  cases d with
  | int k' n => unfold HasTy at h; rw [hu] at h; injection h.1 with h; cases h
  | bool b => unfold HasTy at h; rw [hu] at h; injection h with h; cases h
  | str s => unfold HasTy at h; rw [hu] at h; injection h.1 with h; cases h
  | st fs => unfold HasTy at h; obtain ⟨fs', h, _⟩ := h; rw [hu] at h; injection h with h; cases h
  | lst z xs => unfold HasTy at h; obtain ⟨e', h, hz, h2, h3⟩ := h; rw [hu] at h; injection h with h; injection h with h; subst h; rw [hz0] at hz; subst hz; rw [hb0] at h2; exact ⟨xs, rfl, h2, h3⟩
theorem hasTys_cons {r : List TypeId} {ds : List D} (h : HasTys P ds (t :: r)) : ∃ d ds', ds = d :: ds' ∧ HasTy P d t ∧ HasTys P ds' r := by
  cases ds with
  | nil => unfold HasTys at h; cases h
  | cons d ds => unfold HasTys at h; obtain ⟨t', r', he, h1, h2⟩ := h; injection he with e1 e2; subst e1 e2; exact ⟨d, ds, rfl, h1, h2⟩
theorem hasTys_nil {ds : List D} (h : HasTys P ds []) : ds = [] := by
  cases ds with
  | nil => rfl
  | cons d ds => unfold HasTys at h; obtain ⟨t', r', he, _⟩ := h; cases he
end

theorem allTy_map {P : Program} {e : TypeId} {α : Type} {enc : α → D} {Q : α → Prop} : ∀ ds : List D, AllTy P ds e → (∀ d ∈ ds, HasTy P d e → ∃ x, d = enc x ∧ Q x) → ∃ xs : List α, ds = xs.map enc ∧ ∀ x ∈ xs, Q x
  | [], _, _ => ⟨[], rfl, by simp⟩
  | d :: ds, h, hd => by
    unfold AllTy at h
    obtain ⟨x, hx, hq⟩ := hd d (by simp) h.1
    obtain ⟨xs, hxs, hqs⟩ := allTy_map ds h.2 fun d' hm ht => hd d' (by simp [hm]) ht
    exact ⟨x :: xs, by rw [hx, hxs]; rfl, by intro y hy; rcases List.mem_cons.1 hy with rfl | hy; exact hq; exact hqs y hy⟩

theorem cellsPat : Tryz.prog.cellsOf 45 = 3 := by kernel_rfl
theorem cellsRule : Tryz.prog.cellsOf 47 = 6 := by kernel_rfl
theorem cellsRules : Tryz.prog.cellsOf 28 = 1 := by kernel_rfl
theorem cellsStr : Tryz.prog.cellsOf 9 = 1 := by kernel_rfl
theorem bytesPat : Tryz.prog.bytesOf 45 = 40 := by kernel_rfl
theorem bytesRule : Tryz.prog.bytesOf 47 = 72 := by kernel_rfl
theorem bytesRules : Tryz.prog.bytesOf 28 = 24 := by kernel_rfl
theorem bytesStr : Tryz.prog.bytesOf 9 = 16 := by kernel_rfl

theorem strs_of {ds : List D} (h : AllTy Tryz.prog ds 9) : ∃ S : List (List UInt8), ds = S.map .str ∧ ∀ s ∈ S, s.length ≤ reachBytes :=
  allTy_map (enc := .str) (Q := fun s => s.length ≤ reachBytes) ds h fun _ _ hd => hasTy_str Tryz.underlying9 hd

def I64 (n : Int) : Prop := (Lit.int .i64 n).wf = true
theorem I64.lo {n : Int} (h : I64 n) : -9223372036854775808 ≤ n := by
  unfold I64 Lit.wf at h
  have h1 : IntKind.i64.min = -9223372036854775808 := rfl
  have h2 : IntKind.i64.max = 9223372036854775807 := rfl
  simp at h; omega
theorem I64.hi {n : Int} (h : I64 n) : n ≤ 9223372036854775807 := by
  unfold I64 Lit.wf at h
  have h1 : IntKind.i64.min = -9223372036854775808 := rfl
  have h2 : IntKind.i64.max = 9223372036854775807 := rfl
  simp at h; omega

mutual
def PatWf : Pat → Prop
  | .mk op nt ks => I64 op ∧ I64 nt ∧ PatsWf ks
def PatsWf : List Pat → Prop
  | [] => True
  | p :: ps => PatWf p ∧ PatsWf ps
end
theorem patsWf_of : ∀ ps : List Pat, (∀ p ∈ ps, PatWf p) → PatsWf ps
  | [], _ => by unfold PatsWf; trivial
  | p :: ps, h => by unfold PatsWf; exact ⟨h p (by simp), patsWf_of ps fun q hq => h q (by simp [hq])⟩
theorem PatsWf.at_ : ∀ {ps : List Pat}, PatsWf ps → ∀ p ∈ ps, PatWf p
  | q :: ps, h, p, hp => by
    unfold PatsWf at h
    rcases List.mem_cons.1 hp with rfl | hp
    · exact h.1
    · exact PatsWf.at_ h.2 p hp

theorem encP_eq (op nt : Int) (ps : List Pat) : encP (.mk op nt ps) = .st [.int .i64 op, .int .i64 nt, .lst 3 (ps.map encP)] := by
  unfold encP; rw [encPs_map]

theorem pat_of : ∀ (d : D), HasTy Tryz.prog d 45 → ∃ p, d = encP p ∧ PatWf p
  | d, h => by
    obtain ⟨ds, hd0, h1⟩ := hasTy_st Tryz.underlying45 h
    obtain ⟨d1, r1, rfl, g1, h2⟩ := hasTys_cons h1
    obtain ⟨d2, r2, rfl, g2, h3⟩ := hasTys_cons h2
    obtain ⟨d3, r3, rfl, g3, h4⟩ := hasTys_cons h3
    obtain rfl := hasTys_nil h4
    obtain ⟨op, rfl, w1⟩ := hasTy_int Tryz.underlying3 g1
    obtain ⟨nt, rfl, w2⟩ := hasTy_int Tryz.underlying3 g2
    obtain ⟨ks, rfl, hl, ha⟩ := hasTy_lst Tryz.underlying43 cellsPat bytesPat g3
    obtain ⟨ps, rfl, hp⟩ := allTy_map (enc := encP) (Q := PatWf) ks ha fun d' hm hd => pat_of d' hd
    refine ⟨.mk op nt ps, ?_, ?_⟩
    · rw [encP_eq]; exact hd0
    · unfold PatWf; exact ⟨w1, w2, patsWf_of ps hp⟩
termination_by d => SizeOf.sizeOf d
decreasing_by
  have := List.sizeOf_lt_of_mem hm
  rw [hd0]
  simp
  omega

def RuleWf (r : Rule) : Prop := I64 r.nt ∧ PatWf r.pat ∧ I64 r.cost ∧ r.form.length ≤ reachBytes

theorem rule_of (d : D) (h : HasTy Tryz.prog d 47) : ∃ r, d = encR r ∧ RuleWf r := by
  obtain ⟨ds, rfl, h1⟩ := hasTy_st Tryz.underlying47 h
  obtain ⟨d1, r1, rfl, g1, h2⟩ := hasTys_cons h1
  obtain ⟨d2, r2, rfl, g2, h3⟩ := hasTys_cons h2
  obtain ⟨d3, r3, rfl, g3, h4⟩ := hasTys_cons h3
  obtain ⟨d4, r4, rfl, g4, h5⟩ := hasTys_cons h4
  obtain rfl := hasTys_nil h5
  obtain ⟨nt, rfl, w1⟩ := hasTy_int Tryz.underlying3 g1
  obtain ⟨p, rfl, w2⟩ := pat_of d2 g2
  obtain ⟨cost, rfl, w3⟩ := hasTy_int Tryz.underlying3 g3
  obtain ⟨form, rfl, w4⟩ := hasTy_str Tryz.underlying9 g4
  exact ⟨⟨nt, p, cost, form⟩, rfl, w1, w2, w3, w4⟩

def encRs (rs : List Rule) : D := .lst 6 (rs.map encR)
def RulesWf (rs : List Rule) : Prop := rs.length ≤ reachBytes ∧ ∀ r ∈ rs, RuleWf r
theorem rules_of (d : D) (h : HasTy Tryz.prog d 28) : ∃ rs, d = encRs rs ∧ RulesWf rs := by
  obtain ⟨ks, rfl, hl, ha⟩ := hasTy_lst Tryz.underlying28 cellsRule bytesRule h
  obtain ⟨rs, rfl, hp⟩ := allTy_map (enc := encR) (Q := RuleWf) ks ha fun d' _ hd => rule_of d' hd
  exact ⟨rs, by unfold encRs; rfl, by rw [List.length_map] at hl; omega, hp⟩

/-- the questions of gantletlaw11: lists of rules, texts -/
def encAsk (L : List (List Rule)) (S : List (List UInt8)) : D := .st [.lst 1 (L.map encRs), .lst 1 (S.map .str)]
def AskWf (L : List (List Rule)) (S : List (List UInt8)) : Prop := L.length ≤ reachBytes ∧ S.length ≤ reachBytes ∧ (∀ rs ∈ L, RulesWf rs) ∧ ∀ s ∈ S, s.length ≤ reachBytes
theorem ask_of (d : D) (h : HasTy Tryz.prog d 25) : ∃ L S, d = encAsk L S ∧ AskWf L S := by
  obtain ⟨ds, rfl, h1⟩ := hasTy_st Tryz.underlying25 h
  obtain ⟨d1, r1, rfl, g1, h2⟩ := hasTys_cons h1
  obtain ⟨d2, r2, rfl, g2, h3⟩ := hasTys_cons h2
  obtain rfl := hasTys_nil h3
  obtain ⟨ks, rfl, hl, ha⟩ := hasTy_lst Tryz.underlying22 cellsRules bytesRules g1
  obtain ⟨L, rfl, hp⟩ := allTy_map (enc := encRs) (Q := RulesWf) ks ha fun d' _ hd => rules_of d' hd
  obtain ⟨ss, rfl, hl2, ha2⟩ := hasTy_lst Tryz.underlying23 cellsStr bytesStr g2
  obtain ⟨S, rfl, hs⟩ := strs_of ha2
  exact ⟨L, S, rfl, by rw [List.length_map] at hl; omega, by rw [List.length_map] at hl2; omega, hp, hs⟩

end Go.Proofs.YthdicdkgfmiepaaGreatDoor
