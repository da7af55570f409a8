/- RuleForms: wakes, and the statement's function walked. -/
import Derived.Test.YthdicdkgfmiepaaGreatDoorRuM
namespace Go.Proofs.YthdicdkgfmiepaaGreatDoor
open Go.RowKit

theorem formOf_addi : formOf [97, 100, 100, 105] = some ⟨0, pO 12 [pN 0, pN 2], 0, [97, 100, 100, 105]⟩ := by kernel_rfl

theorem strs_at {w : World} {ok : Nat → Prop} {S : List (List UInt8)} {A : Option Addr} {n c : Nat} (h : Rep w ok (.lst 1 (S.map .str)) [.slice A n c]) (k : Nat) (hk : k < S.length) :
    ∃ (g off : Nat), A = some ⟨g, off, none⟩ ∧ ok g ∧ g < w.heap.size ∧ w.cell? ⟨g, off + k, none⟩ = some (.string ⟨(S[k]).toArray⟩) := by
  obtain ⟨g, off, a, hA, hok, hlt, hl, hr, hc⟩ := h.at_ k (by simpa using hk)
  rw [List.getElem_map] at hr
  have := rep_str_inv hr
  subst this
  exact ⟨g, off, hA, hok, hlt, by have := hc 0 (by omega); simpa using this⟩

theorem formOf_self (k : Nat) (hk : k < formsR.length) : formOf formsR[k].form = some formsR[k] := by
  have h0 : ((List.range 60).all fun k => decide (idxOf formsR (formsR.getD k noRule).form = k)) = true := by kernel_rfl
  have h1 : idxOf formsR formsR[k].form = k := by
    have h2 := List.all_eq_true.1 h0 k (by rw [List.mem_range, ← formsR_len]; exact hk)
    have h3 : formsR.getD k noRule = formsR[k] := by rw [List.getD_eq_getElem?_getD, List.getElem?_eq_getElem hk]; rfl
    rw [h3] at h2
    simpa using h2
  rcases formOf_idx formsR[k].form with ⟨h2, _⟩ | ⟨k', hk', h2, h3⟩
  · omega
  · have : k' = k := by omega
    subst this; exact h3

theorem same_self {α : Type} (a : α) : same a a = true := (same_iff a a).2 rfl

theorem later6 {w w' : World} {p0 p1 p2 p3 p4 p5 : Addr} {u0 u1 u2 u3 u4 u5 : Value} (hb : Below w.heap.size w w') (h : w.cell? p0 = some u0 ∧ w.cell? p1 = some u1 ∧ w.cell? p2 = some u2 ∧ w.cell? p3 = some u3 ∧ w.cell? p4 = some u4 ∧ w.cell? p5 = some u5) : w'.cell? p0 = some u0 ∧ w'.cell? p1 = some u1 ∧ w'.cell? p2 = some u2 ∧ w'.cell? p3 = some u3 ∧ w'.cell? p4 = some u4 ∧ w'.cell? p5 = some u5 :=
  ⟨cell_later hb h.1, cell_later hb h.2.1, cell_later hb h.2.2.1, cell_later hb h.2.2.2.1, cell_later hb h.2.2.2.2.1, cell_later hb h.2.2.2.2.2⟩

end Go.Proofs.YthdicdkgfmiepaaGreatDoor
