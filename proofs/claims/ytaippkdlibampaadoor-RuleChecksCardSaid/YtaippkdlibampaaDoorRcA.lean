/- EqRules; RuleChecks' function walked. -/
import Derived.Test.YtaippkdlibampaaDoorRuZ
import Derived.Test.YtaippkdlibampaaDoorRuQ
namespace Go.Proofs.YtaippkdlibampaaDoor
open Go.RowKit

set_option maxHeartbeats 4000000 in
theorem eqRules_self (rs : List Rule) (A B : Option Addr) (c d : Nat) (w : World) (hp : RulesIn w A c rs) (hq : RulesIn w B d rs) :
    Calls Tryd.prog 22 #[.slice A rs.length c, .slice B rs.length d] w (SomeBoolBelow true w) := by
  have hm := hp.le
  unfold maxLen at hm
  obtain ⟨n, hn⟩ : ∃ n, Hid (rs.length = n) := ⟨_, Lib.hid rfl⟩
  have HPP := Lib.hid hp
  have HQQ := Lib.hid hq
  rw [hn.out] at hm ⊢
  clear hp hq
  go_enter Tryd.func22, Tryd.ntmps22
  go_wp2_with fail
  go_loopw [5] (fun i wr => ∃ k : Nat, k ≤ n ∧ i = .int .i64 k ∧ Below w.heap.size w wr) (fun i _ => n - (intOf i).toNat)
  case atStart => exact ⟨0, by omega, rfl, Below.refl _ _⟩
  case round =>
    obtain ⟨k, hk, rfl, hb⟩ := hrel
    obtain ⟨wo, rfl⟩ : ∃ wo : World, wo = wr := ⟨_, rfl⟩
    by_cases hlt : k < n
    · have hkl : k < rs.length := by rw [hn.out]; exact hlt
      obtain ⟨okp, hp1⟩ := HPP.out.below hb
      obtain ⟨okq, hq1⟩ := HQQ.out.below hb
      obtain ⟨g, off, A', c', rfl, _, hg, ⟨a0, a1, a2, a3, a4, a5⟩, _, hpi⟩ := rules_at hp1 k hkl
      obtain ⟨g', off', B', d', rfl, _, hg', ⟨b0, b1, b2, b3, b4, b5⟩, _, hqi⟩ := rules_at hq1 k hkl
      obtain ⟨r, hre⟩ : ∃ r, Hid (rs[k] = r) := ⟨_, Lib.hid rfl⟩
      rw [hre.out] at a0 a1 a2 a3 a4 a5 b0 b1 b2 b3 b4 b5 hpi hqi
      have hQ := fun W => eqRule_any r r A' B' c' d' W
      rw [same_self] at hQ
      have HP : Hid (PatIn wo A' c' r.pat) := Lib.hid ⟨_, hpi⟩
      have HQ : Hid (PatIn wo B' d' r.pat) := Lib.hid ⟨_, hqi⟩
      clear hp1 hq1 hpi hqi
      go_wp2_with fail
      go_region_held3 (fun W => W.cell? ⟨g, off + k * 6, none⟩ = some (.int .i64 r.nt) ∧ W.cell? ⟨g, off + k * 6 + 1, none⟩ = some (.int .i64 r.pat.op) ∧ W.cell? ⟨g, off + k * 6 + 2, none⟩ = some (.int .i64 r.pat.nt) ∧ W.cell? ⟨g, off + k * 6 + 3, none⟩ = some (.slice A' r.pat.kids.length c') ∧ W.cell? ⟨g, off + k * 6 + 4, none⟩ = some (.int .i64 r.cost) ∧ W.cell? ⟨g, off + k * 6 + 5, none⟩ = some (.string ⟨r.form.toArray⟩) ∧ W.cell? ⟨g', off' + k * 6, none⟩ = some (.int .i64 r.nt) ∧ W.cell? ⟨g', off' + k * 6 + 1, none⟩ = some (.int .i64 r.pat.op) ∧ W.cell? ⟨g', off' + k * 6 + 2, none⟩ = some (.int .i64 r.pat.nt) ∧ W.cell? ⟨g', off' + k * 6 + 3, none⟩ = some (.slice B' r.pat.kids.length d') ∧ W.cell? ⟨g', off' + k * 6 + 4, none⟩ = some (.int .i64 r.cost) ∧ W.cell? ⟨g', off' + k * 6 + 5, none⟩ = some (.string ⟨r.form.toArray⟩)) ((refine ⟨?_, ?_, ?_, ?_, ?_, ?_, ?_, ?_, ?_, ?_, ?_, ?_⟩ <;> (with_reducible (repeat (first | assumption | refine cell_drewN ?_ _ | refine cell_drew ?_)))))
        ((go_at_call 13; refine (hQ _ (show PatIn _ _ _ _ from by with_reducible (repeat (first | exact HP.out | refine PatIn.drewN ?_ _ | refine PatIn.drew ?_))) (show PatIn _ _ _ _ from by with_reducible (repeat (first | exact HQ.out | refine PatIn.drewN ?_ _ | refine PatIn.drew ?_)))).mono ?_; rintro e w5 ⟨rfl, hb7⟩; obtain ⟨y0, y1, y2, y3, y4, y5⟩ := later6 hb7 ⟨a0, a1, a2, a3, a4, a5⟩; obtain ⟨z0, z1, z2, z3, z4, z5⟩ := later6 hb7 ⟨b0, b1, b2, b3, b4, b5⟩))
      go_wp2_with fail
      go_roundw
      case rel => exact ⟨k + 1, by omega, by go_num, hb.trans (((Below.refl _ _).drew).trans (hb7.mono hb.size))⟩
      case measure => simp [intOf]; omega
    · obtain rfl : k = n := by omega
      go_wp2_with fail
      go_ret
      exact ⟨rfl, hb⟩

theorem RulesWf.take {rs : List Rule} (h : RulesWf rs) (q : Nat) : RulesWf (rs.take q) := by
  refine ⟨Nat.le_trans (by simp; omega) h.1, fun r hr => h.2 r (List.mem_of_mem_take hr)⟩
theorem RulesSmall.take {rs : List Rule} (h : RulesSmall rs) (q : Nat) : RulesSmall (rs.take q) := by
  refine ⟨Nat.le_trans (by simp; omega) h.1, fun j hj => ?_⟩
  rw [List.getElem_take]
  exact h.2 j (by simp at hj; omega)

theorem RepRow.take {w : World} {ok : Nat → Prop} {z : Nat} : ∀ (ds : List D) (cs : List Value) (q : Nat), RepRow w ok z ds cs → RepRow w ok z (ds.take q) cs
  | [], _, _, _ => by simp; unfold RepRow; trivial
  | d :: ds, cs, 0, _ => by simp; unfold RepRow; trivial
  | d :: ds, cs, q + 1, h => by
    unfold RepRow at h
    obtain ⟨a, b, rfl, h1, h2, h3⟩ := h
    rw [List.take_succ_cons]
    unfold RepRow
    exact ⟨a, b, rfl, h1, h2, RepRow.take ds b q h3⟩

theorem rep_take {w : World} {ok : Nat → Prop} {z : Nat} {ds : List D} {A : Option Addr} {n c : Nat} (h : Rep w ok (.lst z ds) [.slice A n c]) (q : Nat) (hq : q ≤ ds.length) : Rep w ok (.lst z (ds.take q)) [.slice A q c] := by
  unfold Rep at h ⊢
  obtain ⟨A', c', he, hc, hm, h⟩ := h
  injection he with he _
  injection he with e1 e2 e3
  subst e1 e3
  refine ⟨A, c, by rw [List.length_take, Nat.min_eq_left hq], by rw [List.length_take]; omega, hm, fun hn => ?_⟩
  rw [List.length_take] at hn
  obtain ⟨g, off, cur, t, fr, hA, hok, hg, hrow⟩ := h (by omega)
  exact ⟨g, off, cur, t, fr, hA, hok, hg, RepRow.take ds _ q hrow⟩

theorem RulesIn.take {w : World} {A : Option Addr} {c : Nat} {rs : List Rule} (h : RulesIn w A c rs) (q : Nat) (hq : q ≤ rs.length) : RulesIn w A c (rs.take q) := by
  obtain ⟨ok, h⟩ := h
  refine ⟨ok, ?_⟩
  have := rep_take h q (by simpa using hq)
  rw [← List.map_take] at this
  rw [List.length_take, Nat.min_eq_left hq]
  exact this

theorem RulesIn.cap {w : World} {A : Option Addr} {c : Nat} {rs : List Rule} (h : RulesIn w A c rs) : rs.length ≤ c := by
  obtain ⟨ok, h⟩ := h
  obtain ⟨A', c', he, h1, _⟩ := h.len
  injection he with e1 e2 e3
  rw [List.length_map] at h1
  omega

theorem rulesIn_of_own {w' : World} {B : Nat} {A : Option Addr} {n c : Nat} {T : TypeId} {ok : Nat → Prop} {rs : List Rule} (h : Own w' B ok T 6 (.slice A n c) (rs.map encR)) : n = rs.length ∧ RulesIn w' A c rs := by
  have hr := h.rep
  obtain ⟨A', c', he, _⟩ := hr.len
  injection he with e1 e2 e3
  rw [List.length_map] at e2
  subst e1 e2 e3
  exact ⟨rfl, ⟨_, hr⟩⟩

set_option maxRecDepth 100000 in
set_option maxHeartbeats 8000000 in
theorem ruleChecks_any (L : List (List Rule)) (S : List (List UInt8)) (A1 A2 : Option Addr) (c1 c2 : Nat) (W : World) (hwf : AskWf L S)
    (h1 : Rep W (fun _ => True) (.lst 1 (L.map encRs)) [.slice A1 L.length c1]) (h2 : Rep W (fun _ => True) (.lst 1 (S.map .str)) [.slice A2 S.length c2]) (ht : Tab W) :
    Calls Tryd.prog 4 #[.agg #[.slice A1 L.length c1, .slice A2 S.length c2]] W (SomeBoolBelow true W) := by
  have hHv := fun w a b => heavy11_any L S A1 A2 c1 c2 w hwf a b
  obtain ⟨hL, _, hwL, _⟩ := hwf
  unfold reachBytes at hL
  obtain ⟨n, hn⟩ : ∃ n, Hid (L.length = n) := ⟨_, Lib.hid rfl⟩
  obtain ⟨s, hs⟩ : ∃ s, Hid (S.length = s) := ⟨_, Lib.hid rfl⟩
  rw [hn.out] at hL h1 hHv ⊢
  rw [hs.out] at h2 hHv ⊢
  have H1 := Lib.hid h1
  have H2 := Lib.hid h2
  clear h1 h2
  go_enter Tryd.func4, Tryd.ntmps4
  go_wp2_with fail
  refine (hHv _ (Rep.alloc H1.out _) (Rep.alloc H2.out _)).mono ?_
  rintro e w1 ⟨b, rfl, hsm, hb1⟩
  have hb01 : Below W.heap.size W w1 := (below_alloc _ _).trans (hb1.mono (by simp))
  have hz1 : W.heap.size < w1.heap.size := by have := hb1.size; simp at this; omega
  have x0 : w1.cell? ⟨W.heap.size, 0, none⟩ = some (.slice A1 n c1) := cell_later hb1 (by simp)
  have HSM := Lib.hid hsm
  clear hHv hsm
  rcases (by cases b <;> simp : b = true ∨ b = false) with rfl | rfl
  · go_wp2_with fail
    go_ret
    exact ⟨rfl, hb01⟩
  · have HSM2 := Lib.hid (HSM.out rfl)
    clear HSM
    go_wp2_with fail
    go_loopw [3] (fun i wr => ∃ k : Nat, k ≤ n ∧ k ≤ 6 ∧ i = .int .i64 k ∧ Below w1.heap.size w1 wr) (fun i _ => 6 - (intOf i).toNat)
    case atStart => exact ⟨0, by omega, by omega, rfl, Below.refl _ _⟩
    case round =>
      obtain ⟨k, hk, hk6, rfl, hb⟩ := hrel
      obtain ⟨wo, rfl⟩ : ∃ wo : World, wo = wr := ⟨_, rfl⟩
      have hb0 : Below W.heap.size W wo := hb01.trans (hb.mono hb01.size)
      have y0 : wo.cell? ⟨W.heap.size, 0, none⟩ = some (.slice A1 n c1) := cell_later hb x0
      have hz0 : W.heap.size < wo.heap.size := by have := hb.size; omega
      by_cases hlt : k < n ∧ k < 6
      · obtain ⟨hlt, hlt6⟩ := hlt
        have hkl : k < L.length := by rw [hn.out]; exact hlt
        have hsmk := HSM2.out L[k] (List.getElem_mem hkl)
        have hwk := hwL L[k] (List.getElem_mem hkl)
        obtain ⟨rs, hrs⟩ : ∃ rs, Hid (L[k] = rs) := ⟨_, Lib.hid rfl⟩
        rw [hrs.out] at hsmk hwk
        have HSK := Lib.hid hsmk
        have HWK := Lib.hid hwk
        obtain ⟨m, hm⟩ : ∃ m, Hid (rs.length = m) := ⟨_, Lib.hid rfl⟩
        have hml : m ≤ 1048576 := by rw [← hm.out]; exact hsmk.1
        clear hsmk hwk x0
        have hk6d : decide ((k : Int) < 6) = true := by simp; omega
        go_wp2_with fail
        go_loopw [4] (fun i wr => ∃ q : Nat, q ≤ m + 1 + m ∧ i = .int .i64 q ∧ Below wo.heap.size wo wr) (fun i _ => m + 1 - (intOf i).toNat)
        case atStart => exact ⟨0, by omega, rfl, Below.refl _ _⟩
        case round =>
          obtain ⟨q, hq, rfl, hbq⟩ := hrel
          obtain ⟨wp, rfl⟩ : ∃ wp : World, wp = wr := ⟨_, rfl⟩
          have hb0q : Below W.heap.size W wp := hb0.trans (hbq.mono hb0.size)
          have y1 : wp.cell? ⟨W.heap.size, 0, none⟩ = some (.slice A1 n c1) := cell_later hbq y0
          have hzp : W.heap.size < wp.heap.size := by have := hbq.size; omega
          obtain ⟨g, off, B, d, rfl, hg, a0, hri⟩ := lists_at (H1.out.below hb0q) k hkl
          rw [hrs.out] at a0 hri
          rw [hm.out] at a0
          have hmd : m ≤ d := by rw [← hm.out]; exact hri.cap
          have HRI := Lib.hid hri
          clear hri y0
          by_cases hql : q ≤ m
          · have HIN : Hid (RulesIn wp B d (rs.take q)) := Lib.hid (HRI.out.take q (by rw [hm.out]; exact hql))
            have HWF : Hid (RulesWf (rs.take q)) := Lib.hid (HWK.out.take q)
            have HSQ : Hid (RulesSmall (rs.take q)) := Lib.hid (HSK.out.take q)
            have hlen : Hid ((rs.take q).length = q) := Lib.hid (by rw [List.length_take, hm.out]; omega)
            obtain ⟨l, hl⟩ : ∃ l, Hid (rs.take q = l) := ⟨_, Lib.hid rfl⟩
            rw [hl.out] at HIN HWF HSQ hlen
            have f1 := fun w a => copyRules_any l HSQ.out B d w a
            have f2 := fun A c w a b => whole_any l HWF.out A c w a b
            have f3 := fun w a => checkR_any l HWF.out B d w a
            have f4 := fun w a => wholeR_any l B d w a
            have f5 := fun A c w a b => check_any l HWF.out A c w a b
            have f6 := fun A c w a b => eqRules_self l A B c d w a b
            rw [hlen.out] at f1 f2 f3 f4 f5 f6
            obtain ⟨ce, hce⟩ : ∃ x, Hid (checkE l = x) := ⟨_, Lib.hid rfl⟩
            obtain ⟨wb, hwb⟩ : ∃ x, Hid (wholeB l = x) := ⟨_, Lib.hid rfl⟩
            rw [hce.out] at f2 f3 f5
            rw [hwb.out] at f2 f4
            go_wp2_with fail
            refine (f1 _ HIN.out).mono ?_
            rintro e w3 ⟨v3, rfl, ho3, hb3⟩
            obtain ⟨A3, d3, rfl, _⟩ := ho3.rep.len
            obtain ⟨_, hr3⟩ := rulesIn_of_own ho3
            rw [List.length_map] at ho3 ⊢
            rw [hlen.out] at ho3 ⊢
            have HR3 : Hid (RulesIn w3 A3 d3 l) := Lib.hid hr3
            have HB3 : Hid (RulesIn w3 B d l) := Lib.hid (HIN.out.below hb3)
            have hbw3 : Below W.heap.size W w3 := hb0q.trans (hb3.mono hb0q.size)
            clear ho3 hr3 f1
            go_wp2_with fail
            refine (f2 A3 d3 _ (tab_alloc ht _ hbw3) HR3.out).mono ?_
            rintro e w4 ⟨rfl, hb4⟩
            have HR4 : Hid (RulesIn w4 A3 d3 l) := Lib.hid (HR3.out.below hb4)
            have HB4 : Hid (RulesIn w4 B d l) := Lib.hid (HB3.out.below hb4)
            have hbw4 : Below W.heap.size W w4 := hbw3.trans (hb4.mono hbw3.size)
            clear f2
            go_wp2_with fail
            refine (f3 _ HB4.out).mono ?_
            rintro e w5 ⟨rfl, hb5⟩
            have HR5 : Hid (RulesIn w5 A3 d3 l) := Lib.hid (HR4.out.below hb5)
            have HB5 : Hid (RulesIn w5 B d l) := Lib.hid (HB4.out.below hb5)
            have hbw5 : Below W.heap.size W w5 := hbw4.trans (hb5.mono hbw4.size)
            have hbp5 : Below wo.heap.size wo w5 := hbq.trans ((hb3.mono hbq.size).trans ((hb4.mono (by have := hbq.size; have := hb3.size; omega)).trans (hb5.mono (by have := hbq.size; have := hb3.size; have := hb4.size; omega))))
            clear f3
            by_cases hc0 : ce = 0
            · subst hc0
              go_wp2_with fail
              refine (f4 _ HB5.out).mono ?_
              rintro e w6 ⟨rfl, hb6⟩
              have HR6 : Hid (RulesIn w6 A3 d3 l) := Lib.hid (HR5.out.below hb6)
              have HB6 : Hid (RulesIn w6 B d l) := Lib.hid (HB5.out.below hb6)
              have hbw6 : Below W.heap.size W w6 := hbw5.trans (hb6.mono hbw5.size)
              have hbp6 : Below wo.heap.size wo w6 := hbp5.trans (hb6.mono hbp5.size)
              clear f4
              go_wp2_with fail
              refine (f5 A3 d3 _ (tab_alloc ht _ hbw6) HR6.out).mono ?_
              rintro e w7 ⟨rfl, hb7⟩
              have HR7 : Hid (RulesIn w7 A3 d3 l) := Lib.hid (HR6.out.below hb7)
              have HB7 : Hid (RulesIn w7 B d l) := Lib.hid (HB6.out.below hb7)
              have hbp7 : Below wo.heap.size wo w7 := hbp6.trans (hb7.mono hbp6.size)
              clear f5
              have y7 := cell_later hb7 (cell_later hb6 (cell_later hb5 (cell_later hb4 (cell_later hb3  y1))))
              have a7 := cell_later hb7 (cell_later hb6 (cell_later hb5 (cell_later hb4 (cell_later hb3  a0))))
              have hz7 : W.heap.size < w7.heap.size := by have := hbp7.size; omega
              have hg7 : g < w7.heap.size := World.block_lt_of_cell? _ _ a7
              clear y1 a0 hg hzp
              go_wp2_with (first | (go_at_call 12; refine (num12_any _ _).mono ?_; rintro e w' ⟨rfl, rfl⟩) | (go_at_call 22; refine (f6 A3 d3 _ HR7.out HB7.out).mono ?_; rintro e w8 ⟨rfl, hb8⟩; have y8 := cell_later hb8 y7; have a8 := cell_later hb8 a7))
              go_roundw
              case rel => exact ⟨q + 1 + m / 8, by omega, by go_num, hbp7.trans (hb8.mono hbp7.size)⟩
              case measure => simp [intOf]; omega
            · have hce2 : (ce == 0) = false := by simpa using hc0
              have hdc : decide (ce = 0) = false := by simpa using hc0
              rw [hdc, Bool.false_and]
              go_wp2_with fail
              refine (f5 A3 d3 _ (tab_alloc ht _ hbw5) HR5.out).mono ?_
              rintro e w7 ⟨rfl, hb7⟩
              have HR7 : Hid (RulesIn w7 A3 d3 l) := Lib.hid (HR5.out.below hb7)
              have HB7 : Hid (RulesIn w7 B d l) := Lib.hid (HB5.out.below hb7)
              have hbp7 : Below wo.heap.size wo w7 := hbp5.trans (hb7.mono hbp5.size)
              clear f5 f4
              have y7 := cell_later hb7 (cell_later hb5 (cell_later hb4 (cell_later hb3  y1)))
              have a7 := cell_later hb7 (cell_later hb5 (cell_later hb4 (cell_later hb3  a0)))
              have hz7 : W.heap.size < w7.heap.size := by have := hbp7.size; omega
              have hg7 : g < w7.heap.size := World.block_lt_of_cell? _ _ a7
              clear y1 a0 hg hzp
              go_wp2_with (first | (go_at_call 12; refine (num12_any _ _).mono ?_; rintro e w' ⟨rfl, rfl⟩) | (go_at_call 22; refine (f6 A3 d3 _ HR7.out HB7.out).mono ?_; rintro e w8 ⟨rfl, hb8⟩; have y8 := cell_later hb8 y7; have a8 := cell_later hb8 a7))
              go_roundw
              case rel => exact ⟨q + 1 + m / 8, by omega, by go_num, hbp7.trans (hb8.mono hbp7.size)⟩
              case measure => simp [intOf]; omega
          · go_wp2_with fail
            go_roundw
            case rel => exact ⟨k + 1, by omega, by omega, by go_num, hb.trans (hbq.mono hb.size)⟩
            case measure => simp [intOf]; omega
      · have hfin : ∀ W', Below W.heap.size W W' → Calls Tryd.prog 15 #[] W' fun e w' => e = .returned (.bool true) ∧ Below W'.heap.size W' w' := fun W' h => wakes12_any W' (tab_alloc ht _ h)
        by_cases hkn : k < n
        · have h6 : ¬ k < 6 := fun h => hlt ⟨hkn, h⟩
          clear hlt
          go_wp2_with fail
          refine (hfin _ hb0).mono ?_
          rintro e w3 ⟨rfl, hb3⟩
          go_wp2_with fail
          go_ret
          exact ⟨ret_bool rfl, hb0.trans (hb3.mono hb0.size)⟩
        · clear hlt
          go_wp2_with fail
          refine (hfin _ hb0).mono ?_
          rintro e w3 ⟨rfl, hb3⟩
          go_wp2_with fail
          go_ret
          exact ⟨ret_bool rfl, hb0.trans (hb3.mono hb0.size)⟩

end Go.Proofs.YtaippkdlibampaaDoor
