/- gantletref11.Parse, where the text is one of rules whose costs have one digit. The fixed rules and trees of CoverFit, in plain words. CoverFit walked. -/
import Derived.Test.YtaippkdlibampaaDoorKP
namespace Go.Proofs.YtaippkdlibampaaDoor

/- gantletref11.Parse, where the text is one of rules whose costs have one digit. -/
section
open Go.RowKit

/-- a text's lines are these rules -/
inductive LinesTo : List UInt8 → List Rule → Prop
  | nil : LinesTo [] []
  | cons (s line rest a b c d f : List UInt8) (x : UInt8) (n m2 : Nat) (p : Pat) (rs : List Rule) (h1 : cutT s [10] = some (line, rest)) (h2 : cutT line [32, 60, 45, 32] = some (a, b)) (h3 : cutT b [32, 58, 32] = some (c, d)) (h4 : cutT d [32] = some ([x], f))
      (hx : x.toNat = 48 + n) (hn : n < 10) (hp : rdPat 8 c 0 = some (p, [], m2)) (ha : 0 ≤ ntT a) (hr : LinesTo rest rs) : LinesTo s (⟨ntT a, p, n, f⟩ :: rs)

theorem cut_len {s b x y : List UInt8} (h : cutT s b = some (x, y)) : x.length ≤ s.length ∧ y.length ≤ s.length ∧ (0 < s.length → 0 < b.length → y.length < s.length) := by
  unfold cutT at h
  cases hf : (List.range (s.length + 1)).find? (hitAt s b) with
  | none => rw [hf] at h; cases h
  | some i =>
    rw [hf] at h
    injection h with h
    injection h with h1 h2
    subst h1 h2
    rw [List.length_take, List.length_drop]
    exact ⟨by omega, by omega, by omega⟩

set_option maxRecDepth 100000 in
set_option maxHeartbeats 16000000 in
theorem parse_any (s : List UInt8) (rs : List Rule) (hL : LinesTo s rs) (hs : s.length ≤ 16000) (hl : rs.length ≤ 90) (hmay : mayRs rs = true) (hwf : RulesWf rs) (hok : ∀ r ∈ rs, LineOk r) (htx : rulesText rs = s) (w : World) :
    Calls Tryd.prog 23 #[.string ⟨s.toArray⟩] w fun e w' => ∃ A d, e = .returned (.tuple #[.slice A rs.length d, .bool true]) ∧ RulesIn w' A d rs ∧ Below w.heap.size w w' := by
  have HL := Lib.hid hL
  have hsz : (⟨s.toArray⟩ : ByteArray).size = s.length := by simp [ByteArray.size]
  clear hL
  go_enter Tryd.func23, Tryd.ntmps23
  go_wp2_with fail
  go_loopw [0, 4] (fun u0 v wr => ∃ (sk : List UInt8) (done todo : List Rule), u0 = .string ⟨sk.toArray⟩ ∧ sk.length ≤ s.length ∧ Hid (rs = done ++ todo) ∧ Hid (LinesTo sk todo) ∧ Hid (Own wr w.heap.size (fun g => w.heap.size ≤ g) 33 6 v (done.map encR)) ∧ Below w.heap.size w wr) (fun u0 _ _ => match u0 with | .string b => b.size | _ => 0)
  case atStart => exact ⟨s, [], rs, rfl, Nat.le_refl _, Lib.hid rfl, HL, Lib.hid (Own.nil _ _ _ _ _), Below.refl _ _⟩
  case round =>
    obtain ⟨sk, done, todo, rfl, hsk, hrs, hLk, hown, hb⟩ := hrel
    obtain ⟨wo, rfl⟩ : ∃ wo : World, wo = wr := ⟨_, rfl⟩
    obtain ⟨Av, dv, rfl, _⟩ := hown.out.rep.len
    rw [List.length_map] at hown ⊢
    have hdl0 : done.length + todo.length ≤ 90 := by rw [← List.length_append, ← hrs.out]; exact hl
    obtain ⟨dn, hdn⟩ : ∃ x, Hid (done.length = x) := ⟨_, Lib.hid rfl⟩
    rw [hdn.out] at hown hdl0 ⊢
    by_cases hlt : 0 < sk.length
    · obtain ⟨line, rest, a, b, c, d, f, x, n, m2, p, todo', h1, h2, h3, h4, hx, hn, hp, ha, hr, htd⟩ : ∃ line rest a b c d f x n m2 p todo', cutT sk [10] = some (line, rest) ∧ cutT line [32, 60, 45, 32] = some (a, b) ∧ cutT b [32, 58, 32] = some (c, d) ∧ cutT d [32] = some ([x], f) ∧ x.toNat = 48 + n ∧ n < 10 ∧ rdPat 8 c 0 = some (p, [], m2) ∧ 0 ≤ ntT a ∧ LinesTo rest todo' ∧ todo = ⟨ntT a, p, n, f⟩ :: todo' := by
        cases hLk.out with
        | nil => simp at hlt
        | cons _ line rest a b c d f x n m2 p rs' h1 h2 h3 h4 hx hn hp ha hr => exact ⟨line, rest, a, b, c, d, f, x, n, m2, p, rs', h1, h2, h3, h4, hx, hn, hp, ha, hr, rfl⟩
      obtain ⟨nv, hnv⟩ : ∃ x, Hid (ntT a = x) := ⟨_, Lib.hid rfl⟩
      rw [hnv.out] at ha htd
      subst htd
      rw [List.length_cons] at hdl0
      have e1 := cut_len h1
      have e2 := cut_len h2
      have e3 := cut_len h3
      have e4 := cut_len h4
      have q1 := fun W => cut_any sk [10] (by omega) (by decide) W
      have q2 := fun W => cut_any line [32, 60, 45, 32] (by omega) (by decide) W
      have q3 := fun W => cut_any b [32, 58, 32] (by omega) (by decide) W
      have q4 := fun W => cut_any d [32] (by omega) (by decide) W
      have hnum := fun W => num1 n x hx hn W
      have hpat := (rdPat_ok 8 c 0 p [] m2 hp (by omega) (by omega)).2.2
      have hnt := fun W => ntW_any a W
      rw [hnv.out] at hnt
      have HRr := Lib.hid hr
      have hrl : rest.length < sk.length := e1.2.2 hlt (by decide)
      have hdl : (done.map encR).length ≤ 1000000000 := by rw [List.length_map, hdn.out]; omega
      have hxs : (⟨#[x]⟩ : ByteArray).size = 1 := rfl
      clear hr hp hLk e1 e2 e3 e4
      go_wp2_with fail
      refine (q1 _).mono ?_
      rintro e w1 ⟨he, m1, rfl⟩
      unfold CutIs at he
      rw [h1] at he
      obtain rfl : e = _ := he
      go_wp2_with fail
      refine (q2 _).mono ?_
      rintro e w2 ⟨he, m2', rfl⟩
      unfold CutIs at he
      rw [h2] at he
      obtain rfl : e = _ := he
      go_wp2_with fail
      refine (q3 _).mono ?_
      rintro e w3 ⟨he, m3, rfl⟩
      unfold CutIs at he
      rw [h3] at he
      obtain rfl : e = _ := he
      go_wp2_with fail
      refine (q4 _).mono ?_
      rintro e w4 ⟨he, m4, rfl⟩
      unfold CutIs at he
      rw [h4] at he
      obtain rfl : e = _ := he
      go_wp2_with fail
      refine (hnum _).mono ?_
      rintro e w5 ⟨rfl, hb5⟩
      have hb05 : Below w.heap.size w w5 := (below_drewsN hb _).trans (hb5.mono hb.size)
      have HO5 : Hid (Own w5 w.heap.size (fun g => w.heap.size ≤ g) 33 6 (.slice Av dn dv) (done.map encR)) := Lib.hid ((hown.out.drewN _).below hb5)
      clear q1 q2 q3 q4 h1 h2 h3 h4 hnum hown
      go_wp2_with fail
      have r5 : RdIs (w5.alloc (.cells #[.string ⟨c.toArray⟩, .int .i64 0] 99)) w5.heap.size c (0 : Nat) := BlkIs.fresh _ _ _
      refine (hpat w5.heap.size _ r5).mono ?_
      rintro e w6 ⟨B, d2, rfl, hrep6, hk6, r6⟩
      have hbe : Below w5.heap.size w5 w6 := by
        have h := hk6.below (by simp)
        exact (below_alloc _ _).trans h
      have hb06 : Below w.heap.size w w6 := hb05.trans (hbe.mono hb05.size)
      have HO6 := Lib.hid (HO5.out.below hbe)
      obtain ⟨gw, hgw⟩ : ∃ x, Hid (w5.heap.size + 1 = x) := ⟨_, Lib.hid rfl⟩
      have HR6 : Hid (Rep w6 (fun k => gw ≤ k) (encP p) [.int .i64 p.op, .int .i64 p.nt, .slice B p.kids.length d2]) := Lib.hid (hrep6.imp (fun k hk _ => by rw [← hgw.out]; simpa using hk))
      have hfar : ∀ q, gw ≤ q → some q ≠ Value.ownBlock (.slice Av dn dv) := fun q hq => HO5.out.ne_far (by rw [← hgw.out] at hq; omega)
      have hgwb : w.heap.size ≤ gw := by rw [← hgw.out]; have := hb05.size; omega
      have c6 : w6.cell? ⟨w5.heap.size, 0, none⟩ = some (.string ⟨#[]⟩) := BlkIs.cell r6 0
      have l6 : w5.heap.size < w6.heap.size := BlkIs.lt r6
      clear hrep6 hpat r5 r6 hk6 hbe hb5 HO5
      go_upto_region 15 with fail
      obtain ⟨g21, hg⟩ : ∃ x, Hid (w6.heap.size = x) := ⟨_, Lib.hid rfl⟩
      obtain ⟨w7', hw7⟩ : ∃ W, W = w6.alloc (.cells #[.int .i64 p.op, .int .i64 p.nt, .slice B p.kids.length d2] 31) := ⟨_, rfl⟩
      have G7 : BlkIs w7' g21 31 #[.int .i64 p.op, .int .i64 p.nt, .slice B p.kids.length d2] := by rw [hw7]; exact BlkIs.fresh_at hg.out.symm
      have HO7 : Hid (Own w7' w.heap.size (fun g => w.heap.size ≤ g) 33 6 (.slice Av dn dv) (done.map encR)) := Lib.hid (by rw [hw7]; exact HO6.out.alloc _)
      have HR7 : Hid (Rep w7' (fun k => gw ≤ k) (encP p) [.int .i64 p.op, .int .i64 p.nt, .slice B p.kids.length d2]) := Lib.hid (by rw [hw7]; exact HR6.out.alloc _)
      have hbw7 : Below w.heap.size w w7' := by rw [hw7]; exact hb06.alloc hb06.size _
      have c7 : w7'.cell? ⟨w5.heap.size, 0, none⟩ = some (.string ⟨#[]⟩) := by rw [hw7]; exact cell_later (below_alloc _ _) c6
      have hg21 : gw ≤ g21 := by rw [← hg.out, ← hgw.out]; omega
      rw [hg.out, ← hw7]
      clear hw7 HO6 HR6 c6
      go_wp2_with fail
      refine (hnt _).mono ?_
      rintro e w7 ⟨rfl, hb77⟩
      have G7 := G7.below hb77 G7.lt
      have HO7 := Lib.hid (HO7.out.below hb77)
      have HR7 := Lib.hid (HR7.out.below hb77)
      have hbw7 : Below w.heap.size w w7 := hbw7.trans (hb77.mono hbw7.size)
      have hnv0 : ¬ nv < 0 := by omega
      clear c7 hb77
      go_upto_region 17 with fail
      obtain ⟨v, hv⟩ : ∃ x, Hid (Value.slice Av dn dv = x) := ⟨_, Lib.hid rfl⟩
      rw [hv.out] at HO7 hfar ⊢
      refine anyJ_begin 9 (fun W => BlkIs W g21 31 #[.int .i64 p.op, .int .i64 p.nt, .slice B p.kids.length d2]) (by kernel_rfl) (G7.drew) (fun hHeld => ?_)
      refine take (i := 0) (d := some 109) (v := v) (by kernel_rfl) rfl rfl rfl (fun _ _ _ h => h) hHeld (fun W hSw => by go_simp) ?_
      simp only [Act.put, List.setIfInBounds_toArray, List.set_cons_zero, List.set_cons_succ]
      refine take (i := 1) (d := some 110) (v := .string ⟨a.toArray⟩) (by kernel_rfl) rfl rfl rfl (fun _ _ _ h => h) hHeld (fun W hSw => by go_simp) ?_
      simp only [Act.put, List.setIfInBounds_toArray, List.set_cons_zero, List.set_cons_succ]
      refine take (i := 3) (d := some 112) (v := .agg #[.int .i64 p.op, .int .i64 p.nt, .slice B p.kids.length d2]) (by kernel_rfl) rfl rfl rfl (fun _ _ _ h => h) hHeld (fun W hSw => by have x0 : W.cell? ⟨g21, 0, none⟩ = some (.int .i64 p.op) := BlkIs.cell hSw 0; have x1 : W.cell? ⟨g21, 1, none⟩ = some (.int .i64 p.nt) := BlkIs.cell hSw 1; have x2 : W.cell? ⟨g21, 2, none⟩ = some (.slice B p.kids.length d2) := BlkIs.cell hSw 2; go_simp) ?_
      simp only [Act.put, List.setIfInBounds_toArray, List.set_cons_zero, List.set_cons_succ]
      refine take (i := 4) (d := some 113) (v := .int .i64 n) (by kernel_rfl) rfl rfl rfl (fun _ _ _ h => h) hHeld (fun W hSw => by go_simp) ?_
      simp only [Act.put, List.setIfInBounds_toArray, List.set_cons_zero, List.set_cons_succ]
      refine take (i := 5) (d := some 114) (v := .string ⟨f.toArray⟩) (by kernel_rfl) rfl rfl rfl (fun _ _ _ h => h) hHeld (fun W hSw => by go_simp) ?_
      simp only [Act.put, List.setIfInBounds_toArray, List.set_cons_zero, List.set_cons_succ]
      refine anyJ_only (i := 2) (d := some 111) (by kernel_rfl) rfl rfl rfl (fun K' hK => ?_)
      refine wp_go_call 59 _ _ rfl #[.string ⟨a.toArray⟩] rfl (fun W => by go_simp) (hnt _) (fun e w8 he => ?_)
      obtain ⟨rfl, hb8⟩ := he
      have G8 : BlkIs w8 g21 31 #[.int .i64 p.op, .int .i64 p.nt, .slice B p.kids.length d2] := BlkIs.below G7.drew hb8 (G7.drew).lt
      have O8 := (HO7.out.drew).below hb8
      have R8 : Rep w8 (fun k => gw ≤ k) (encP p) [.int .i64 p.op, .int .i64 p.nt, .slice B p.kids.length d2] := (HR7.out.drew).below hb8
      have hb78 : Below w.heap.size w w8 := hbw7.drew.trans (hb8.mono hbw7.size)
      have hb78z := hb78.size
      have hvf : ∀ q, w7.heap.size ≤ q → some q ≠ v.ownBlock := fun q hq => HO7.out.ne_far hq
      have hvw : ∀ q, gw ≤ q → some q ≠ v.ownBlock := fun q hq => hfar q hq
      have hz8 : w7.heap.size ≤ w8.heap.size := hb8.size
      refine ⟨_, rfl, hK.out _ _ (fun _ => G8) (fun hHeld => ?_)⟩
      have hHeld := hHeld (by decide)
      simp only [Act.put, List.setIfInBounds_toArray, List.set_cons_zero, List.set_cons_succ]
      refine take (i := 6) (d := some 115) (v := .agg #[.int .i64 nv, .int .i64 p.op, .int .i64 p.nt, .slice B p.kids.length d2, .int .i64 n, .string ⟨f.toArray⟩]) (by kernel_rfl) rfl rfl rfl (fun _ _ _ h => h) hHeld (fun W hSw => by go_simp) ?_
      simp only [Act.put, List.setIfInBounds_toArray, List.set_cons_zero, List.set_cons_succ]
      refine anyJ_only (i := 7) (d := some 116) (by kernel_rfl) rfl rfl rfl (fun K' hK => ?_)
      have O9 := O8.alloc (.cells #[.int .i64 nv, .int .i64 p.op, .int .i64 p.nt, .slice B p.kids.length d2, .int .i64 n, .string ⟨f.toArray⟩] 33)
      have R9 := R8.alloc (.cells #[.int .i64 nv, .int .i64 p.op, .int .i64 p.nt, .slice B p.kids.length d2, .int .i64 n, .string ⟨f.toArray⟩] 33)
      refine wp_val (w' := w8.alloc (.cells #[.int .i64 nv, .int .i64 p.op, .int .i64 p.nt, .slice B p.kids.length d2, .int .i64 n, .string ⟨f.toArray⟩] 33)) (v := .slice (some ⟨w8.heap.size, 0, none⟩) 1 1) (by go_simp) (hK.out _ _ (fun _ => G8.alloc _) (fun hHeld => ?_))
      have hHeld := hHeld (by decide)
      simp only [Act.put, List.setIfInBounds_toArray, List.set_cons_zero, List.set_cons_succ]
      refine anyJ_only (i := 8) (d := some 117) (by kernel_rfl) rfl rfl rfl (fun K' hK => ?_)
      refine wp_append_one (.tmp 109) (.tmp 116) 26 33 6 72 _ rfl Tryd.underlying26 rule_info rfl (by decide) (by decide) w.heap.size (fun g => w.heap.size ≤ g) v _ rfl w8.heap.size rfl O9 [.int .i64 nv, .int .i64 p.op, .int .i64 p.nt, .slice B p.kids.length d2, .int .i64 n, .string ⟨f.toArray⟩] (encR ⟨nv, p, n, f⟩) (BlkIs.fresh _ _ _) rfl (by simp [Value.oneCell']) ((rep_rule_of (r := ⟨nv, p, n, f⟩) R9).imp (fun q hq _ => ⟨by omega, hvw q hq⟩)) hdl (by simp; omega) (fun v9 w9 own9 hb9 hk9 => ?_)
      refine hK.out _ _ (fun _ => (hk9 g21 (hvw g21 hg21) (hHeld.lt)).trans hHeld) (fun hHeld => ?_)
      have hHeld := hHeld (by decide)
      simp only [Act.put, List.setIfInBounds_toArray, List.set_cons_zero, List.set_cons_succ]
      refine anyJ_only (i := 9) (d := some 4) (by kernel_rfl) rfl rfl rfl (fun K' hK => ?_)
      refine wp_val (w' := w9) (v := v9) (by go_simp) (hK.out _ _ (fun h => absurd rfl h) (fun _ => ?_))
      simp only [Act.put, List.setIfInBounds_toArray, List.set_cons_zero, List.set_cons_succ]
      refine anyJ_done (by kernel_rfl) ?_ _
      go_wp2_with fail
      go_roundw
      case rel => exact ⟨rest, done ++ [⟨nv, p, n, f⟩], todo', rfl, by omega, Lib.hid (by rw [hrs.out]; simp), HRr, Lib.hid (by rw [List.map_append]; exact own9), (hb78.alloc hb78.size _).trans hb9⟩
      case measure => simp [ByteArray.size]; omega
    · have hsk0 : sk = [] := List.eq_nil_of_length_eq_zero (by omega)
      subst hsk0
      have htd : todo = [] := by cases hLk.out with | nil => rfl | cons _ line rest _ _ _ _ _ _ _ _ _ _ h1 => exact absurd h1 (by rw [show cutT [] [10] = none by decide]; intro h; cases h)
      subst htd
      have hrd := hrs.out
      rw [List.append_nil] at hrd
      subst hrd
      have HRI : Hid (RulesIn wo Av dv rs) := Lib.hid (by
        have h := hown.out.rep
        rw [← hdn.out] at h
        exact ⟨_, h⟩)
      have f1 := mayR_any rs hwf Av dv wo HRI.out
      have f2 := fun W h => text_any rs hok (by omega) Av dv W h
      rw [hmay, hdn.out] at f1
      rw [htx, hdn.out] at f2
      clear hown
      go_wp2_with fail
      refine f1.mono ?_
      rintro e w2 ⟨rfl, hb2⟩
      clear f1
      go_wp2_with fail
      refine (f2 _ (HRI.out.below hb2)).mono ?_
      rintro e w3 ⟨rfl, hb3⟩
      go_wp2_with fail
      go_ret2
      have hb23 := hb2.trans (hb3.mono hb2.size)
      exact ⟨Av, dv, by rw [hdn.out]; rfl, HRI.out.below hb23, hb.trans (hb23.mono hb.size)⟩

end

/- The fixed rules and trees of CoverFit, in plain words. -/
section
open Go.RowKit

def fitText : List UInt8 := [114, 101, 103, 32, 60, 45, 32, 97, 110, 121, 32, 58, 32, 51, 32, 108, 105, 10, 97, 110, 121, 32, 60, 45, 32, 99, 111, 110, 32, 58, 32, 48, 32, 97, 110, 121, 10, 105, 109, 109, 32, 60, 45, 32, 99, 111, 110, 32, 58, 32, 48, 32, 102, 105, 116, 10, 114, 101, 103, 32, 60, 45, 32, 116, 109, 112, 32, 58, 32, 48, 32, 116, 109, 112, 10, 114, 101, 103, 32, 60, 45, 32, 97, 100, 100, 40, 114, 101, 103, 44, 32, 114, 101, 103, 41, 32, 58, 32, 49, 32, 97, 100, 100, 10, 114, 101, 103, 32, 60, 45, 32, 97, 100, 100, 40, 114, 101, 103, 44, 32, 105, 109, 109, 41, 32, 58, 32, 49, 32, 97, 100, 100, 105, 10]
def fitRs : List Rule := [⟨0, .mk 0 1 [], 3, [108, 105]⟩, ⟨1, .mk 1 0 [], 0, [97, 110, 121]⟩, ⟨2, .mk 1 0 [], 0, [102, 105, 116]⟩, ⟨0, .mk 2 0 [], 0, [116, 109, 112]⟩, ⟨0, .mk 12 0 [.mk 0 0 [], .mk 0 0 []], 1, [97, 100, 100]⟩, ⟨0, .mk 12 0 [.mk 0 0 [], .mk 0 2 []], 1, [97, 100, 100, 105]⟩]

theorem lines_step {s line rest a b c d f : List UInt8} {x : UInt8} {n m2 : Nat} {p : Pat} {rs : List Rule} {nv cst : Int} (h1 : cutT s [10] = some (line, rest)) (h2 : cutT line [32, 60, 45, 32] = some (a, b)) (h3 : cutT b [32, 58, 32] = some (c, d)) (h4 : cutT d [32] = some ([x], f))
    (hx : x.toNat = 48 + n) (hn : n < 10) (hp : rdPat 8 c 0 = some (p, [], m2)) (ha : ntT a = nv) (h0 : 0 ≤ nv) (hc : cst = n) (hr : LinesTo rest rs) : LinesTo s (⟨nv, p, cst, f⟩ :: rs) := by
  subst ha hc
  exact LinesTo.cons s line rest a b c d f x n m2 p rs h1 h2 h3 h4 hx hn hp h0 hr

set_option maxRecDepth 100000 in
theorem fit_lines : LinesTo fitText fitRs := by
  refine lines_step (line := [114, 101, 103, 32, 60, 45, 32, 97, 110, 121, 32, 58, 32, 51, 32, 108, 105]) (rest := [97, 110, 121, 32, 60, 45, 32, 99, 111, 110, 32, 58, 32, 48, 32, 97, 110, 121, 10, 105, 109, 109, 32, 60, 45, 32, 99, 111, 110, 32, 58, 32, 48, 32, 102, 105, 116, 10, 114, 101, 103, 32, 60, 45, 32, 116, 109, 112, 32, 58, 32, 48, 32, 116, 109, 112, 10, 114, 101, 103, 32, 60, 45, 32, 97, 100, 100, 40, 114, 101, 103, 44, 32, 114, 101, 103, 41, 32, 58, 32, 49, 32, 97, 100, 100, 10, 114, 101, 103, 32, 60, 45, 32, 97, 100, 100, 40, 114, 101, 103, 44, 32, 105, 109, 109, 41, 32, 58, 32, 49, 32, 97, 100, 100, 105, 10]) (a := [114, 101, 103]) (b := [97, 110, 121, 32, 58, 32, 51, 32, 108, 105]) (c := [97, 110, 121]) (d := [51, 32, 108, 105]) (x := 51) (n := 3) (m2 := 1) (by kernel_rfl) (by kernel_rfl) (by kernel_rfl) (by kernel_rfl) rfl (by omega) (by kernel_rfl) (by kernel_rfl) (by omega) rfl ?_
  refine lines_step (line := [97, 110, 121, 32, 60, 45, 32, 99, 111, 110, 32, 58, 32, 48, 32, 97, 110, 121]) (rest := [105, 109, 109, 32, 60, 45, 32, 99, 111, 110, 32, 58, 32, 48, 32, 102, 105, 116, 10, 114, 101, 103, 32, 60, 45, 32, 116, 109, 112, 32, 58, 32, 48, 32, 116, 109, 112, 10, 114, 101, 103, 32, 60, 45, 32, 97, 100, 100, 40, 114, 101, 103, 44, 32, 114, 101, 103, 41, 32, 58, 32, 49, 32, 97, 100, 100, 10, 114, 101, 103, 32, 60, 45, 32, 97, 100, 100, 40, 114, 101, 103, 44, 32, 105, 109, 109, 41, 32, 58, 32, 49, 32, 97, 100, 100, 105, 10]) (a := [97, 110, 121]) (b := [99, 111, 110, 32, 58, 32, 48, 32, 97, 110, 121]) (c := [99, 111, 110]) (d := [48, 32, 97, 110, 121]) (x := 48) (n := 0) (m2 := 1) (by kernel_rfl) (by kernel_rfl) (by kernel_rfl) (by kernel_rfl) rfl (by omega) (by kernel_rfl) (by kernel_rfl) (by omega) rfl ?_
  refine lines_step (line := [105, 109, 109, 32, 60, 45, 32, 99, 111, 110, 32, 58, 32, 48, 32, 102, 105, 116]) (rest := [114, 101, 103, 32, 60, 45, 32, 116, 109, 112, 32, 58, 32, 48, 32, 116, 109, 112, 10, 114, 101, 103, 32, 60, 45, 32, 97, 100, 100, 40, 114, 101, 103, 44, 32, 114, 101, 103, 41, 32, 58, 32, 49, 32, 97, 100, 100, 10, 114, 101, 103, 32, 60, 45, 32, 97, 100, 100, 40, 114, 101, 103, 44, 32, 105, 109, 109, 41, 32, 58, 32, 49, 32, 97, 100, 100, 105, 10]) (a := [105, 109, 109]) (b := [99, 111, 110, 32, 58, 32, 48, 32, 102, 105, 116]) (c := [99, 111, 110]) (d := [48, 32, 102, 105, 116]) (x := 48) (n := 0) (m2 := 1) (by kernel_rfl) (by kernel_rfl) (by kernel_rfl) (by kernel_rfl) rfl (by omega) (by kernel_rfl) (by kernel_rfl) (by omega) rfl ?_
  refine lines_step (line := [114, 101, 103, 32, 60, 45, 32, 116, 109, 112, 32, 58, 32, 48, 32, 116, 109, 112]) (rest := [114, 101, 103, 32, 60, 45, 32, 97, 100, 100, 40, 114, 101, 103, 44, 32, 114, 101, 103, 41, 32, 58, 32, 49, 32, 97, 100, 100, 10, 114, 101, 103, 32, 60, 45, 32, 97, 100, 100, 40, 114, 101, 103, 44, 32, 105, 109, 109, 41, 32, 58, 32, 49, 32, 97, 100, 100, 105, 10]) (a := [114, 101, 103]) (b := [116, 109, 112, 32, 58, 32, 48, 32, 116, 109, 112]) (c := [116, 109, 112]) (d := [48, 32, 116, 109, 112]) (x := 48) (n := 0) (m2 := 1) (by kernel_rfl) (by kernel_rfl) (by kernel_rfl) (by kernel_rfl) rfl (by omega) (by kernel_rfl) (by kernel_rfl) (by omega) rfl ?_
  refine lines_step (line := [114, 101, 103, 32, 60, 45, 32, 97, 100, 100, 40, 114, 101, 103, 44, 32, 114, 101, 103, 41, 32, 58, 32, 49, 32, 97, 100, 100]) (rest := [114, 101, 103, 32, 60, 45, 32, 97, 100, 100, 40, 114, 101, 103, 44, 32, 105, 109, 109, 41, 32, 58, 32, 49, 32, 97, 100, 100, 105, 10]) (a := [114, 101, 103]) (b := [97, 100, 100, 40, 114, 101, 103, 44, 32, 114, 101, 103, 41, 32, 58, 32, 49, 32, 97, 100, 100]) (c := [97, 100, 100, 40, 114, 101, 103, 44, 32, 114, 101, 103, 41]) (d := [49, 32, 97, 100, 100]) (x := 49) (n := 1) (m2 := 3) (by kernel_rfl) (by kernel_rfl) (by kernel_rfl) (by kernel_rfl) rfl (by omega) (by kernel_rfl) (by kernel_rfl) (by omega) rfl ?_
  refine lines_step (line := [114, 101, 103, 32, 60, 45, 32, 97, 100, 100, 40, 114, 101, 103, 44, 32, 105, 109, 109, 41, 32, 58, 32, 49, 32, 97, 100, 100, 105]) (rest := []) (a := [114, 101, 103]) (b := [97, 100, 100, 40, 114, 101, 103, 44, 32, 105, 109, 109, 41, 32, 58, 32, 49, 32, 97, 100, 100, 105]) (c := [97, 100, 100, 40, 114, 101, 103, 44, 32, 105, 109, 109, 41]) (d := [49, 32, 97, 100, 100, 105]) (x := 49) (n := 1) (m2 := 3) (by kernel_rfl) (by kernel_rfl) (by kernel_rfl) (by kernel_rfl) rfl (by omega) (by kernel_rfl) (by kernel_rfl) (by omega) rfl ?_
  exact LinesTo.nil

theorem fit_text : rulesText fitRs = fitText := by kernel_rfl
theorem fit_may : mayRs fitRs = true := by kernel_rfl
theorem fit_wf : RulesWf fitRs := by
  unfold RulesWf fitRs
  refine ⟨by unfold reachBytes; simp, fun r hr => ?_⟩
  simp only [List.mem_cons, List.mem_nil_iff, or_false] at hr
  rcases hr with rfl | rfl | rfl | rfl | rfl | rfl
  all_goals
    unfold RuleWf
    refine ⟨rfl, ?_, rfl, by unfold reachBytes; simp⟩
    simp only [PatWf, PatsWf]
    repeat' apply And.intro
    all_goals first | rfl | trivial
theorem fit_ok : ∀ r ∈ fitRs, LineOk r := by
  intro r hr
  unfold fitRs at hr
  simp only [List.mem_cons, List.mem_nil_iff, or_false] at hr
  rcases hr with rfl | rfl | rfl | rfl | rfl | rfl
  all_goals exact ⟨by decide, by decide, by kernel_rfl, by decide, by decide, by decide, by decide⟩

def fitTree (v : Int) : Pat := .mk 12 0 [.mk 2 0 [], .mk 1 v []]
def fitNums : List Int := [0, 2047, 2048, -2048, -2049, 1099511627776]
theorem fit_check : checkE fitRs = 0 := by
  refine checkE_good _ fit_may (fun j hj => ?_)
  have hj : j = 0 ∨ j = 1 ∨ j = 2 ∨ j = 3 ∨ j = 4 ∨ j = 5 := by simp [fitRs] at hj; omega
  have f0 : formOf [108, 105] = some ⟨0, .mk 0 1 [], 0, [108, 105]⟩ := by kernel_rfl
  have f1 : formOf [97, 110, 121] = some ⟨1, .mk 1 0 [], 0, [97, 110, 121]⟩ := by kernel_rfl
  have f2 : formOf [102, 105, 116] = some ⟨2, .mk 1 0 [], 0, [102, 105, 116]⟩ := by kernel_rfl
  have f3 : formOf [116, 109, 112] = some ⟨0, .mk 2 0 [], 0, [116, 109, 112]⟩ := by kernel_rfl
  have f4 : formOf [97, 100, 100] = some ⟨0, .mk 12 0 [.mk 0 0 [], .mk 0 0 []], 0, [97, 100, 100]⟩ := by kernel_rfl
  have f5 : formOf [97, 100, 100, 105] = some ⟨0, .mk 12 0 [.mk 0 0 [], .mk 0 2 []], 0, [97, 100, 100, 105]⟩ := by kernel_rfl
  rcases hj with rfl | rfl | rfl | rfl | rfl | rfl
  · show rightR ⟨0, .mk 0 1 [], 3, [108, 105]⟩ = true
    unfold rightR
    simp only [f0]
    simp [same_iff]
  · show rightR ⟨1, .mk 1 0 [], 0, [97, 110, 121]⟩ = true
    unfold rightR
    simp only [f1]
    simp [same_iff]
  · show rightR ⟨2, .mk 1 0 [], 0, [102, 105, 116]⟩ = true
    unfold rightR
    simp only [f2]
    simp [same_iff]
  · show rightR ⟨0, .mk 2 0 [], 0, [116, 109, 112]⟩ = true
    unfold rightR
    simp only [f3]
    simp [same_iff]
  · show rightR ⟨0, .mk 12 0 [.mk 0 0 [], .mk 0 0 []], 1, [97, 100, 100]⟩ = true
    unfold rightR
    simp only [f4]
    simp [same_iff]
  · show rightR ⟨0, .mk 12 0 [.mk 0 0 [], .mk 0 2 []], 1, [97, 100, 100, 105]⟩ = true
    unfold rightR
    simp only [f5]
    simp [same_iff]

theorem fit_cover (i : Nat) (h : i < fitNums.length) : coverMay fitRs (fitTree fitNums[i]) 0 = true ∧ (labB fitRs (fitTree fitNums[i])).cost 0 = (if 2047 < fitNums[i] ∨ fitNums[i] < -2048 then 4 else 1) := by
  have hi : i = 0 ∨ i = 1 ∨ i = 2 ∨ i = 3 ∨ i = 4 ∨ i = 5 := by simp [fitNums] at h; omega
  have hm : mayT (fitTree fitNums[i]) = true ∧ (labB fitRs (fitTree fitNums[i])).cost 0 = (if 2047 < fitNums[i] ∨ fitNums[i] < -2048 then 4 else 1) := by
    rcases hi with rfl | rfl | rfl | rfl | rfl | rfl
    all_goals exact ⟨by kernel_rfl, by kernel_rfl⟩
  refine ⟨?_, hm.2⟩
  unfold coverMay
  rw [hm.1, fit_check]; rfl

end

/- CoverFit walked. -/
section
open Go.RowKit

set_option maxRecDepth 100000 in
set_option maxHeartbeats 4000000 in
theorem add_any (v : Int) (w : World) : Calls Tryd.prog 25 #[.int .i64 v] w fun e w' => ∃ A d, e = .returned (.agg #[.int .i64 12, .int .i64 0, .slice A 2 d]) ∧ PatIn w' A d (fitTree v) ∧ Below w.heap.size w w' := by
  go_enter Tryd.func25, Tryd.ntmps25
  go_wp2_with fail
  refine bodyPost_ret (v := .agg #[.int .i64 12, .int .i64 0, .slice (some ⟨w.heap.size + 1, 0, none⟩) 2 2]) (by simp [results, Tryd.results25, go_sem]) rfl ?_
  refine ⟨_, _, rfl, ⟨fun _ => True, ?_⟩, below_box2 _ _ _⟩
  refine rep_pat_mk (p := fitTree v) ?_
  unfold Rep
  refine ⟨some ⟨w.heap.size + 1, 0, none⟩, 2, rfl, by simp [fitTree, Pat.kids], by simp [maxLen], fun _ => ⟨w.heap.size + 1, 0, _, _, _, rfl, trivial, BlkIs.fresh1 _ _ _ _, ?_⟩⟩
  exact Cells.row [] (cs := [.int .i64 2, .int .i64 0, .slice none 0 0, .int .i64 1, .int .i64 v, .slice none 0 0]) ⟨[_, _, _], [_, _, _], rfl, rfl, rep_leaf, ⟨[_, _, _], [], rfl, rfl, rep_leaf, rfl⟩⟩

set_option maxHeartbeats 4000000 in
theorem heavy6_zero (w : World) : Calls Tryd.prog 27 #[.agg #[.slice none 0 0, .slice none 0 0]] w (SomeBoolBelow false w) := by
  go_enter Tryd.func27, Tryd.ntmps27
  go_wp2_with fail
  go_loopw [3, 4] (fun x i wr => i = .int .i64 0 ∧ x = .int .i64 0 ∧ w.alloc (.cells #[.slice none 0 0, .slice none 0 0] 52) = wr) (fun _ _ _ => 0)
  case atStart => exact ⟨rfl, rfl, rfl⟩
  case round =>
    obtain ⟨rfl, rfl, rfl⟩ := hrel
    go_wp2_with fail
    go_loopw [3, 5] (fun x i wr => i = .int .i64 0 ∧ x = .int .i64 0 ∧ w.alloc (.cells #[.slice none 0 0, .slice none 0 0] 52) = wr) (fun _ _ _ => 0)
    case atStart => exact ⟨rfl, rfl, rfl⟩
    case round =>
      obtain ⟨rfl, rfl, rfl⟩ := hrel
      go_wp2_with fail
      go_ret
      exact ⟨rfl, below_alloc _ _⟩

set_option maxHeartbeats 4000000 in
theorem heavy11_zero (w : World) : Calls Tryd.prog 16 #[.agg #[.slice none 0 0, .slice none 0 0]] w (SomeBoolBelow false w) := by
  go_enter Tryd.func16, Tryd.ntmps16
  go_wp2_with fail
  go_loopw [3, 4] (fun x i wr => i = .int .i64 0 ∧ x = .int .i64 0 ∧ w.alloc (.cells #[.slice none 0 0, .slice none 0 0] 25) = wr) (fun _ _ _ => 0)
  case atStart => exact ⟨rfl, rfl, rfl⟩
  case round =>
    obtain ⟨rfl, rfl, rfl⟩ := hrel
    go_wp2_with fail
    go_loopw [3, 5] (fun x i wr => i = .int .i64 0 ∧ x = .int .i64 0 ∧ w.alloc (.cells #[.slice none 0 0, .slice none 0 0] 25) = wr) (fun _ _ _ => 0)
    case atStart => exact ⟨rfl, rfl, rfl⟩
    case round =>
      obtain ⟨rfl, rfl, rfl⟩ := hrel
      go_wp2_with fail
      go_ret
      exact ⟨rfl, below_alloc _ _⟩

set_option maxRecDepth 100000 in
set_option maxHeartbeats 16000000 in
theorem coverFit_any (L : List (List Rule)) (S : List (List UInt8)) (T : List Pat) (S2 : List (List UInt8)) (C : List Cov) (A1 A2 A3 A4 A5 : Option Addr) (c1 c2 c3 c4 c5 : Nat) (W : World) (_hask : Ask13 W L S T S2 C A1 A2 A3 A4 A5 c1 c2 c3 c4 c5) (htab : Tab W) :
    Calls Tryd.prog 5 #[.agg #[.slice A1 L.length c1, .slice A2 S.length c2, .slice A3 T.length c3, .slice A4 S2.length c4, .slice A5 C.length c5]] W (SomeBoolBelow true W) := by
  obtain ⟨n1, hn1⟩ : ∃ n, Hid (L.length = n) := ⟨_, Lib.hid rfl⟩
  obtain ⟨n2, hn2⟩ : ∃ n, Hid (S.length = n) := ⟨_, Lib.hid rfl⟩
  obtain ⟨n3, hn3⟩ : ∃ n, Hid (T.length = n) := ⟨_, Lib.hid rfl⟩
  obtain ⟨n4, hn4⟩ : ∃ n, Hid (S2.length = n) := ⟨_, Lib.hid rfl⟩
  obtain ⟨n5, hn5⟩ : ∃ n, Hid (C.length = n) := ⟨_, Lib.hid rfl⟩
  rw [hn1.out, hn2.out, hn3.out, hn4.out, hn5.out]
  have hparse := fun W' => parse_any fitText fitRs fit_lines (by decide) (by decide) fit_may fit_wf fit_ok fit_text W'
  have n0 := fun W' => num13_any 0 W'
  clear _hask hn1 hn2 hn3 hn4 hn5
  go_enter Tryd.func5, Tryd.ntmps5
  go_wp2_with fail
  have hb0 := below_alloc W (.cells #[.slice A1 n1 c1, .slice A2 n2 c2, .slice A3 n3 c3, .slice A4 n4 c4, .slice A5 n5 c5] 55)
  have k0 : BlkIs (W.alloc (.cells #[.slice A1 n1 c1, .slice A2 n2 c2, .slice A3 n3 c3, .slice A4 n4 c4, .slice A5 n5 c5] 55)) W.heap.size 55 #[.slice A1 n1 c1, .slice A2 n2 c2, .slice A3 n3 c3, .slice A4 n4 c4, .slice A5 n5 c5] := BlkIs.fresh _ _ _
  refine (hparse _).mono ?_
  rintro e w1 ⟨A, d, rfl, hrs, hb1⟩
  have hb01 : Below W.heap.size W w1 := hb0.trans (hb1.mono (by simp))
  have k1 := k0.below hb1 (by simp)
  have HR1 := Lib.hid hrs
  clear hparse hrs hb0 hb1 k0
  go_upto_region 5 with fail
  obtain ⟨w2, hw2⟩ : ∃ W', W' = w1.alloc (.cells #[.int .i64 0, .int .i64 2047, .int .i64 2048, .int .i64 (-2048), .int .i64 (-2049), .int .i64 1099511627776] 2) := ⟨_, rfl⟩
  obtain ⟨g5, hg5⟩ : ∃ g, Hid (w1.heap.size = g) := ⟨_, Lib.hid rfl⟩
  have k5 : BlkIs w2 g5 2 (fitNums.map (Value.int .i64)).toArray := by rw [hw2]; exact BlkIs.fresh_at hg5.out.symm
  have HR := Lib.hid (HR1.out.below (show Below w1.heap.size w1 w2 by rw [hw2]; exact below_alloc _ _))
  have hbW2 : Below W.heap.size W w2 := by rw [hw2]; exact hb01.alloc hb01.size _
  have k2 : BlkIs w2 W.heap.size 55 #[.slice A1 n1 c1, .slice A2 n2 c2, .slice A3 n3 c3, .slice A4 n4 c4, .slice A5 n5 c5] := by rw [hw2]; exact k1.alloc _
  rw [hg5.out, ← hw2]
  clear hw2 HR1 hb01 k1
  go_wp2_with fail
  go_loopw [6] (fun i wr => ∃ k : Nat, k ≤ 6 ∧ i = .int .i64 k ∧ Below w2.heap.size w2 wr) (fun i _ => 6 - (intOf i).toNat)
  case atStart => exact ⟨0, by omega, rfl, Below.refl _ _⟩
  case round =>
    obtain ⟨k, hk, rfl, hb⟩ := hrel
    obtain ⟨wo, rfl⟩ : ∃ wo : World, wo = wr := ⟨_, rfl⟩
    have hbo : Below W.heap.size W wo := hbW2.trans (hb.mono hbW2.size)
    by_cases hlt : k < 6
    · have hkl : k < fitNums.length := hlt
      have hfc := fit_cover k hkl
      have hc : wo.cell? ⟨g5, k, none⟩ = some (.int .i64 fitNums[k]) := ((k5.below hb k5.lt).cell k).trans (by simp [List.getElem?_eq_getElem hkl])
      obtain ⟨v, hv⟩ : ∃ x, Hid (fitNums[k] = x) := ⟨_, Lib.hid rfl⟩
      rw [hv.out] at hfc hc
      have hadd := fun W' => add_any v W'
      rcases (by omega : (2047 < v) ∨ (¬ 2047 < v ∧ v < -2048) ∨ (¬ 2047 < v ∧ ¬ v < -2048)) with h1 | ⟨h1, h2⟩ | ⟨h1, h2⟩
      · skip
        go_wp2_with fail
        refine (hadd _).mono ?_
        rintro e w3 ⟨A3, d3, rfl, hp3, hb3⟩
        have hl := least_any fitRs fit_wf (fitTree v) 0 A3 A d3 d w3 (tab_alloc htab _ (hbo.trans (hb3.mono hbo.size))) (HR.out.below (hb.trans (hb3.mono hb.size))) hp3
        have hbz3 := hb3.size
        go_wp2_with fail
        refine hl.mono ?_
        rintro e w4 ⟨n, E, X, A4, d4, rfl, _, hb4, his⟩
        have hn : n = 4 ∧ E = 0 := by
          rcases his with ⟨h1, _⟩ | ⟨_, h1, _⟩ | ⟨_, _, h1, h2, _⟩
          · rw [hfc.1] at h1; cases h1
          · rw [show (0 : Int).toNat = 0 from rfl, hfc.2] at h1
            split at h1 <;> omega
          · refine ⟨?_, h2⟩
            rw [h1, show (0 : Int).toNat = 0 from rfl, hfc.2, if_pos (by omega)]
        obtain ⟨rfl, rfl⟩ := hn
        clear hl his
        go_wp2_with fail
        refine (n0 _).mono ?_
        rintro e w' ⟨rfl, rfl⟩
        go_wp2_with fail
        go_roundw
        case rel => exact ⟨k + 1, by omega, by go_num, (hb.trans ((hb3.trans (hb4.mono hbz3)).mono hb.size)).alloc (by have := hb4.size; have := hb.size; omega) _⟩
        case measure => simp [intOf]; omega
      · skip
        go_wp2_with fail
        refine (hadd _).mono ?_
        rintro e w3 ⟨A3, d3, rfl, hp3, hb3⟩
        have hl := least_any fitRs fit_wf (fitTree v) 0 A3 A d3 d w3 (tab_alloc htab _ (hbo.trans (hb3.mono hbo.size))) (HR.out.below (hb.trans (hb3.mono hb.size))) hp3
        have hbz3 := hb3.size
        go_wp2_with fail
        refine hl.mono ?_
        rintro e w4 ⟨n, E, X, A4, d4, rfl, _, hb4, his⟩
        have hn : n = 4 ∧ E = 0 := by
          rcases his with ⟨h1, _⟩ | ⟨_, h1, _⟩ | ⟨_, _, h1, h2, _⟩
          · rw [hfc.1] at h1; cases h1
          · rw [show (0 : Int).toNat = 0 from rfl, hfc.2] at h1
            split at h1 <;> omega
          · refine ⟨?_, h2⟩
            rw [h1, show (0 : Int).toNat = 0 from rfl, hfc.2, if_pos (by omega)]
        obtain ⟨rfl, rfl⟩ := hn
        clear hl his
        go_wp2_with fail
        refine (n0 _).mono ?_
        rintro e w' ⟨rfl, rfl⟩
        go_wp2_with fail
        go_roundw
        case rel => exact ⟨k + 1, by omega, by go_num, (hb.trans ((hb3.trans (hb4.mono hbz3)).mono hb.size)).alloc (by have := hb4.size; have := hb.size; omega) _⟩
        case measure => simp [intOf]; omega
      · skip
        go_wp2_with fail
        refine (hadd _).mono ?_
        rintro e w3 ⟨A3, d3, rfl, hp3, hb3⟩
        have hl := least_any fitRs fit_wf (fitTree v) 0 A3 A d3 d w3 (tab_alloc htab _ (hbo.trans (hb3.mono hbo.size))) (HR.out.below (hb.trans (hb3.mono hb.size))) hp3
        have hbz3 := hb3.size
        go_wp2_with fail
        refine hl.mono ?_
        rintro e w4 ⟨n, E, X, A4, d4, rfl, _, hb4, his⟩
        have hn : n = 1 ∧ E = 0 := by
          rcases his with ⟨h1, _⟩ | ⟨_, h1, _⟩ | ⟨_, _, h1, h2, _⟩
          · rw [hfc.1] at h1; cases h1
          · rw [show (0 : Int).toNat = 0 from rfl, hfc.2] at h1
            split at h1 <;> omega
          · refine ⟨?_, h2⟩
            rw [h1, show (0 : Int).toNat = 0 from rfl, hfc.2, if_neg (by omega)]
        obtain ⟨rfl, rfl⟩ := hn
        clear hl his
        go_wp2_with fail
        refine (n0 _).mono ?_
        rintro e w' ⟨rfl, rfl⟩
        go_wp2_with fail
        go_roundw
        case rel => exact ⟨k + 1, by omega, by go_num, (hb.trans ((hb3.trans (hb4.mono hbz3)).mono hb.size)).alloc (by have := hb4.size; have := hb.size; omega) _⟩
        case measure => simp [intOf]; omega
    · have hko := k2.below hb k2.lt
      have c4 : wo.cell? ⟨W.heap.size, 4, none⟩ = some (.slice A5 n5 c5) := hko.cell 4
      go_wp2_with fail
      refine (heavy6_zero _).mono ?_
      rintro e w3 ⟨rfl, hb3⟩
      have c4 := cell_later hb3 c4
      go_wp2_with fail
      refine (heavy11_zero _).mono ?_
      rintro e w4 ⟨rfl, hb4⟩
      have c4 := cell_later hb4 c4
      have hbo4 : Below W.heap.size W w4 := hbo.trans ((hb3.trans (hb4.mono hb3.size)).mono hbo.size)
      go_wp2_with fail
      refine (wakes13_any _ (tab_alloc htab _ hbo4)).mono ?_
      rintro e w5 ⟨rfl, hb5⟩
      go_wp2_with fail
      go_ret
      exact ⟨ret_bool rfl, hbo4.trans (hb5.mono hbo4.size)⟩

end

end Go.Proofs.YtaippkdlibampaaDoor
