/- What rules weigh: what is not heavy is small. -/
import Derived.Test.YthdicdkgfmiepaaGreatDoorRuK
import Derived.Test.YthdicdkgfmiepaaGreatDoorRuO
import Derived.Test.YthdicdkgfmiepaaGreatDoorRuN
import Derived.IntWalk
namespace Go.Proofs.YthdicdkgfmiepaaGreatDoor
open Go.RowKit

mutual
/-- no node has more kids than are ever counted -/
def PatSmall : Pat → Prop
  | .mk _ _ ks => ks.length ≤ 1048576 ∧ PatsSmall ks
def PatsSmall : List Pat → Prop
  | [] => True
  | p :: ps => PatSmall p ∧ PatsSmall ps
end
theorem patsSmall_of : ∀ ps : List Pat, (∀ j (h : j < ps.length), PatSmall ps[j]) → PatsSmall ps
  | [], _ => by unfold PatsSmall; trivial
  | p :: ps, h => by unfold PatsSmall; exact ⟨h 0 (by simp), patsSmall_of ps fun j hj => h (j + 1) (by simpa using hj)⟩
theorem PatsSmall.at_ : ∀ {ps : List Pat}, PatsSmall ps → ∀ j (h : j < ps.length), PatSmall ps[j]
  | p :: ps, h, 0, _ => by unfold PatsSmall at h; exact h.1
  | p :: ps, h, j + 1, hj => by unfold PatsSmall at h; exact PatsSmall.at_ h.2 j (by simpa using hj)
theorem patSmall_of (p : Pat) (h1 : p.kids.length ≤ 1048576) (h2 : ∀ j (h : j < p.kids.length), PatSmall p.kids[j]) : PatSmall p := by
  cases p; unfold PatSmall; exact ⟨h1, patsSmall_of _ h2⟩
theorem PatSmall.len {p : Pat} (h : PatSmall p) : p.kids.length ≤ 1048576 := by cases p; unfold PatSmall at h; exact h.1
theorem PatSmall.kid {p : Pat} (h : PatSmall p) : ∀ j (h : j < p.kids.length), PatSmall p.kids[j] := by cases p; unfold PatSmall at h; exact h.2.at_

def WeighPost (top : Int) (S : Prop) (w : World) (e : Ending) (w' : World) : Prop := ∃ n : Int, e = .returned (.int .i64 n) ∧ 0 ≤ n ∧ n ≤ top ∧ (n < 1048576 → S) ∧ Below w.heap.size w w'

def PatWOk (p : Pat) : Prop := ∀ (A : Option Addr) (c d : Nat) (w : World), PatIn w A c p → d ≤ 1000 →
  Calls Tryz.prog 37 #[.agg #[.int .i64 p.op, .int .i64 p.nt, .slice A p.kids.length c], .int .i64 d] w (fun e w' => WeighPost (1048576 * (d + 1)) (PatSmall p) w e w' ∧ e ≠ .returned (.int .i64 0))

set_option maxHeartbeats 2000000 in
theorem patW_of (p : Pat) (ih : ∀ i (h : i < p.kids.length), PatWOk p.kids[i]) : PatWOk p := by
  intro A c d w hp hd
  have hkp := hp.kids
  have hle := hkp.le
  unfold maxLen at hle
  obtain ⟨n, hn⟩ : ∃ n, Hid (p.kids.length = n) := ⟨_, Lib.hid rfl⟩
  rw [hn.out] at hle ⊢
  have HK : Hid (PatsIn w A c p.kids) := Lib.hid hkp
  clear hp hkp
  by_cases hd0 : d = 0
  · subst hd0
    go_enter Tryz.func37, Tryz.ntmps37
    go_wp2_with fail
    go_ret
    exact ⟨⟨_, rfl, by omega, by omega, fun h => absurd h (by omega), below_alloc _ _⟩, by simp⟩
  · have hd1 : 1 ≤ d := by omega
    have hde : ((d : Int) == 0) = false := by simp; omega
    go_enter Tryz.func37, Tryz.ntmps37
    go_wp2_with fail
    have hbox : BlkIs (w.alloc (.cells #[.int .i64 p.op, .int .i64 p.nt, .slice A n c] 45)) w.heap.size 45 #[.int .i64 p.op, .int .i64 p.nt, .slice A n c] := BlkIs.fresh _ _ _
    have hb0 := below_alloc w (.cells #[.int .i64 p.op, .int .i64 p.nt, .slice A n c] 45)
    go_loopw [5, 6] (fun s i wr => ∃ (m : Int) (k : Nat), k ≤ n ∧ i = .int .i64 k ∧ s = .int .i64 m ∧ 1 + (k : Int) ≤ m ∧ m ≤ 1048576 * (d + 1) ∧ Below w.heap.size w wr ∧ BlkIs wr w.heap.size 45 #[.int .i64 p.op, .int .i64 p.nt, .slice A n c] ∧ Hid (m < 1048576 → ∀ j (h : j < p.kids.length), j < k → PatSmall p.kids[j])) (fun _ i _ => n - (intOf i).toNat)
    case atStart => exact ⟨1, 0, by omega, rfl, rfl, by omega, by omega, hb0, hbox, Lib.hid (fun _ j _ h => absurd h (by omega))⟩
    case round =>
      obtain ⟨m, k, hk, rfl, rfl, hm1, hm2, hb, hbk, hsm⟩ := hrel
      clear hbox hb0
      obtain ⟨wo, rfl⟩ : ∃ wo : World, wo = wr := ⟨_, rfl⟩
      have hbz := hbk.lt
      have hc2 : wo.cell? ⟨w.heap.size, 2, none⟩ = some (.slice A n c) := hbk.cell 2
      by_cases hlt : k < n
      · by_cases hmm : m < 1048576
        · have hkl : k < p.kids.length := by rw [hn.out]; exact hlt
          obtain ⟨ok, hps⟩ := HK.out.below hb
          obtain ⟨g, off, B, c', rfl, _, hg, ⟨a0, a1, a2⟩, hpi⟩ := pats_at hps k hkl
          have hcall := fun W => ih k hkl B c' (d - 1) W
          obtain ⟨q, hq⟩ : ∃ q, Hid (p.kids[k] = q) := ⟨_, Lib.hid rfl⟩
          rw [hq.out] at a0 a1 a2 hpi hcall
          have e1 : ((d - 1 : Nat) : Int) = (d : Int) - 1 := by omega
          rw [e1] at hcall
          have HP : Hid (PatIn wo B c' q) := Lib.hid ⟨_, hpi⟩
          clear hps hpi e1
          go_wp2_with fail
          refine (hcall _ HP.out (by omega)).mono ?_
          rintro e w3 ⟨⟨m2, rfl, h1, h2, h3, hb3⟩, hne⟩
          have hm3 : 1 ≤ m2 := by
            have : m2 ≠ 0 := fun h => hne (by rw [h])
            omega
          have H3 := Lib.hid h3
          clear h3 hne hcall
          have hd2 : (d : Int) ≤ 1000 := by omega
          go_wp2_with fail
          go_roundw
          case rel =>
            refine ⟨m + m2, k + 1, by omega, by go_num, rfl, by omega, by omega, hb.trans (hb3.mono hb.size), hbk.below hb3 hbz, Lib.hid (fun hlt2 j hj hjk => ?_)⟩
            by_cases e : j = k
            · subst e; rw [hq.out]; exact H3.out (by omega)
            · exact hsm.out hmm j hj (by omega)
          case measure => simp [intOf]; omega
        · go_wp2_with fail
          go_ret
          exact ⟨⟨m, rfl, by omega, by omega, fun h => absurd h (by omega), hb⟩, by simp; omega⟩
      · obtain rfl : k = n := by omega
        go_wp2_with fail
        go_ret
        exact ⟨⟨m, rfl, by omega, by omega, fun h => patSmall_of p (by rw [hn.out]; omega) (fun j hj => hsm.out h j hj (by rw [← hn.out]; exact hj)), hb⟩, by simp; omega⟩

theorem patW_any : ∀ p : Pat, PatWOk p
  | .mk op nt kids => patW_of _ fun i h => patW_any kids[i]
termination_by p => SizeOf.sizeOf p
decreasing_by
  have := List.sizeOf_lt_of_mem (List.getElem_mem h)
  simp only [Pat.kids] at this
  simp only [Pat.mk.sizeOf_spec]
  omega

/-- rules that are small: their number, their patterns -/
def RulesSmall (rs : List Rule) : Prop := rs.length ≤ 1048576 ∧ ∀ j (h : j < rs.length), PatSmall rs[j].pat

def RulesIn (w : World) (A : Option Addr) (c : Nat) (rs : List Rule) : Prop := ∃ ok, Rep w ok (.lst 6 (rs.map encR)) [.slice A rs.length c]
theorem RulesIn.below {w w' : World} {A : Option Addr} {c : Nat} {rs : List Rule} (h : RulesIn w A c rs) (hb : Below w.heap.size w w') : RulesIn w' A c rs := by
  obtain ⟨ok, h⟩ := h; exact ⟨ok, h.below hb⟩
theorem RulesIn.le {w : World} {A : Option Addr} {c : Nat} {rs : List Rule} (h : RulesIn w A c rs) : rs.length ≤ maxLen := by
  obtain ⟨ok, h⟩ := h
  obtain ⟨A', c', he, h1, h2⟩ := h.len
  rw [List.length_map] at h1
  omega

set_option maxHeartbeats 2000000 in
theorem rulesW_any (rs : List Rule) (hf : ∀ r ∈ rs, r.form.length ≤ reachBytes) (hl0 : rs.length ≤ reachBytes) (A : Option Addr) (c : Nat) (w : World) (hr : RulesIn w A c rs) :
    Calls Tryz.prog 15 #[.slice A rs.length c] w (WeighPost 1000000000000000 (RulesSmall rs) w) := by
  unfold reachBytes at hl0
  obtain ⟨n, hn⟩ : ∃ n, Hid (rs.length = n) := ⟨_, Lib.hid rfl⟩
  have HR : Hid (RulesIn w A c rs) := Lib.hid hr
  rw [hn.out] at hl0 ⊢
  clear hr
  go_enter Tryz.func15, Tryz.ntmps15
  go_wp2_with fail
  go_loopw [3, 4] (fun s i wr => ∃ (m : Int) (k : Nat), k ≤ n ∧ i = .int .i64 k ∧ s = .int .i64 m ∧ (n : Int) ≤ m ∧ m ≤ 1000000000000000 ∧ Below w.heap.size w wr ∧ Hid (m < 1048576 → ∀ j (h : j < rs.length), j < k → PatSmall rs[j].pat)) (fun _ i _ => n - (intOf i).toNat)
  case atStart => exact ⟨n, 0, by omega, rfl, rfl, by omega, by omega, Below.refl _ _, Lib.hid (fun _ j _ h => absurd h (by omega))⟩
  case round =>
    obtain ⟨m, k, hk, rfl, rfl, hm1, hm2, hb, hsm⟩ := hrel
    obtain ⟨wo, rfl⟩ : ∃ wo : World, wo = wr := ⟨_, rfl⟩
    by_cases hlt : k < n
    · by_cases hmm : m < 1048576
      · have hkl : k < rs.length := by rw [hn.out]; exact hlt
        obtain ⟨ok, hrs⟩ := HR.out.below hb
        obtain ⟨g, off, B, c', rfl, _, hg, ⟨a0, a1, a2, a3, a4, a5⟩, _, hpi⟩ := rules_at hrs k hkl
        have hfl := hf rs[k] (List.getElem_mem hkl)
        unfold reachBytes at hfl
        obtain ⟨r, hre⟩ : ∃ r, Hid (rs[k] = r) := ⟨_, Lib.hid rfl⟩
        rw [hre.out] at a0 a1 a2 a3 a4 a5 hpi hfl
        have hcall := fun W => patW_any r.pat B c' 20 W
        obtain ⟨fl, hfl2⟩ : ∃ x, Hid (r.form.length = x) := ⟨_, Lib.hid rfl⟩
        have hsz : (⟨r.form.toArray⟩ : ByteArray).size = fl := by rw [← hfl2.out]; simp [ByteArray.size]
        rw [hfl2.out] at hfl
        have HP : Hid (PatIn wo B c' r.pat) := Lib.hid ⟨_, hpi⟩
        clear hrs hpi
        go_wp2_with fail
        go_region_held3 (fun W => W.cell? ⟨g, off + k * 6 + 1, none⟩ = some (.int .i64 r.pat.op) ∧ W.cell? ⟨g, off + k * 6 + 2, none⟩ = some (.int .i64 r.pat.nt) ∧ W.cell? ⟨g, off + k * 6 + 3, none⟩ = some (.slice B r.pat.kids.length c') ∧ W.cell? ⟨g, off + k * 6 + 5, none⟩ = some (.string ⟨r.form.toArray⟩)) ((refine ⟨?_, ?_, ?_, ?_⟩ <;> (with_reducible (repeat (first | assumption | refine cell_drewN ?_ _ | refine cell_drew ?_)))))
          ((go_at_call 37; refine (hcall _ (show PatIn _ _ _ _ from by with_reducible (repeat (first | exact HP.out | refine PatIn.drewN ?_ _ | refine PatIn.drew ?_))) (by omega)).mono ?_; rintro e w3 ⟨⟨m2, rfl, h1, h2, h3, hb3⟩, hne⟩; obtain ⟨x1, x2, x3⟩ := later3 hb3 ⟨a1, a2, a3⟩; have x5 := cell_later hb3 a5))
        go_wp2_with fail
        have e1 : IntKind.i64.wrap (IntKind.i64.wrap (m + (fl : Int)) + m2) = m + fl + m2 := by
          rw [IntWalk.i64_in (m + (fl : Int)) (by omega), IntWalk.i64_in _ (by omega)]
        rw [e1]
        have hb4 : Below w.heap.size w w3 := hb.trans (((Below.refl _ _).drew).trans (hb3.mono hb.size))
        go_roundw
        case rel =>
          refine ⟨m + fl + m2, k + 1, by omega, by go_num, rfl, by omega, by omega, hb4, Lib.hid (fun hlt2 j hj hjk => ?_)⟩
          by_cases e : j = k
          · subst e; rw [hre.out]; exact h3 (by omega)
          · exact hsm.out hmm j hj (by omega)
        case measure => simp [intOf]; omega
      · go_wp2_with fail
        go_ret
        exact ⟨m, rfl, by omega, by omega, fun h => absurd h (by omega), hb⟩
    · obtain rfl : k = n := by omega
      go_wp2_with fail
      go_ret
      exact ⟨m, rfl, by omega, by omega, fun h => ⟨by rw [hn.out]; omega, fun j hj => hsm.out h j hj (by rw [← hn.out]; exact hj)⟩, hb⟩

def HeavyPost (L : List (List Rule)) (w : World) (e : Ending) (w' : World) : Prop := ∃ b : Bool, e = .returned (.bool b) ∧ (b = false → ∀ rs ∈ L, RulesSmall rs) ∧ Below w.heap.size w w'

theorem encRs_eq (rs : List Rule) : encRs rs = .lst 6 (rs.map encR) := by unfold encRs; rfl

/-- row k of a slice of slices of rules -/
theorem lists_at {w : World} {ok : Nat → Prop} {L : List (List Rule)} {A : Option Addr} {n c : Nat} (h : Rep w ok (.lst 1 (L.map encRs)) [.slice A n c]) (k : Nat) (hk : k < L.length) :
    ∃ (g off : Nat) (B : Option Addr) (d : Nat), A = some ⟨g, off, none⟩ ∧ g < w.heap.size ∧ w.cell? ⟨g, off + k, none⟩ = some (.slice B (L[k]).length d) ∧ RulesIn w B d L[k] := by
  obtain ⟨g, off, a, hA, hok, hlt, hl, hr, hc⟩ := h.at_ k (by simpa using hk)
  rw [List.getElem_map, encRs_eq] at hr
  obtain ⟨B, d, rfl, _, _, h2⟩ := rep_lst_inv hr
  rw [List.length_map (f := encR)] at h2 hc
  exact ⟨g, off, B, d, hA, hlt, by have := hc 0 (by omega); simpa using this, ⟨_, h2⟩⟩

set_option maxHeartbeats 2000000 in
theorem heavy11_any (L : List (List Rule)) (S : List (List UInt8)) (A1 A2 : Option Addr) (c1 c2 : Nat) (w : World) (hwf : AskWf L S)
    (h1 : Rep w (fun _ => True) (.lst 1 (L.map encRs)) [.slice A1 L.length c1]) (h2 : Rep w (fun _ => True) (.lst 1 (S.map .str)) [.slice A2 S.length c2]) :
    Calls Tryz.prog 4 #[.agg #[.slice A1 L.length c1, .slice A2 S.length c2]] w (HeavyPost L w) := by
  obtain ⟨hL, hS, hwL, hwS⟩ := hwf
  unfold reachBytes at hL hS
  obtain ⟨n, hn⟩ : ∃ n, Hid (L.length = n) := ⟨_, Lib.hid rfl⟩
  obtain ⟨s, hs⟩ : ∃ s, Hid (S.length = s) := ⟨_, Lib.hid rfl⟩
  rw [hn.out] at hL h1 ⊢
  rw [hs.out] at hS h2 ⊢
  have H1 := Lib.hid h1
  have H2 := Lib.hid h2
  clear h1 h2
  go_enter Tryz.func4, Tryz.ntmps4
  go_wp2_with fail
  have hbox : BlkIs (w.alloc (.cells #[.slice A1 n c1, .slice A2 s c2] 25)) w.heap.size 25 #[.slice A1 n c1, .slice A2 s c2] := BlkIs.fresh _ _ _
  have hb0 := below_alloc w (.cells #[.slice A1 n c1, .slice A2 s c2] 25)
  go_loopw [3, 4] (fun x i wr => ∃ (m : Int) (k : Nat), k ≤ n ∧ i = .int .i64 k ∧ x = .int .i64 m ∧ 0 ≤ m ∧ m ≤ 4000000000000000 ∧ Below w.heap.size w wr ∧ BlkIs wr w.heap.size 25 #[.slice A1 n c1, .slice A2 s c2] ∧ Hid (m < 1048576 → ∀ j (h : j < L.length), j < k → RulesSmall L[j])) (fun _ i _ => n - (intOf i).toNat)
  case atStart => exact ⟨s + n, 0, by omega, rfl, rfl, by omega, by omega, hb0, hbox, Lib.hid (fun _ j _ h => absurd h (by omega))⟩
  case round =>
    obtain ⟨m, k, hk, rfl, rfl, hm1, hm2, hb, hbk, hsm⟩ := hrel
    clear hbox hb0
    obtain ⟨wo, rfl⟩ : ∃ wo : World, wo = wr := ⟨_, rfl⟩
    have hbz := hbk.lt
    have hc0 : wo.cell? ⟨w.heap.size, 0, none⟩ = some (.slice A1 n c1) := hbk.cell 0
    have hc1 : wo.cell? ⟨w.heap.size, 1, none⟩ = some (.slice A2 s c2) := hbk.cell 1
    by_cases hlt : k < n ∧ m < 1048576
    · obtain ⟨hlt, hmm⟩ := hlt
      have hkl : k < L.length := by rw [hn.out]; exact hlt
      obtain ⟨g, off, B, d, rfl, hg, a0, hri⟩ := lists_at (H1.out.below hb) k hkl
      have hcall := fun W => rulesW_any L[k] (fun r hr => ((hwL _ (List.getElem_mem hkl)).2 r hr).2.2.2) (hwL _ (List.getElem_mem hkl)).1 B d W
      obtain ⟨rs, hrs⟩ : ∃ rs, Hid (L[k] = rs) := ⟨_, Lib.hid rfl⟩
      rw [hrs.out] at a0 hri hcall
      have HI := Lib.hid hri
      clear hri
      go_wp2_with fail
      refine (hcall _ HI.out).mono ?_
      rintro e w3 ⟨m2, rfl, h1, h2, h3, hb3⟩
      have H3 := Lib.hid h3
      clear h3 hcall
      go_wp2_with fail
      go_roundw
      case rel =>
        refine ⟨m + m2, k + 1, by omega, by go_num, rfl, by omega, by omega, hb.trans (hb3.mono hb.size), hbk.below hb3 hbz, Lib.hid (fun hlt2 j hj hjk => ?_)⟩
        by_cases e : j = k
        · subst e; rw [hrs.out]; exact H3.out (by omega)
        · exact hsm.out hmm j hj (by omega)
      case measure => simp [intOf]; omega
    · have hex : Hid (m ≤ 8000 → ∀ rs ∈ L, RulesSmall rs) := by
        refine Lib.hid (fun h rs hrs => ?_)
        obtain ⟨j, hj, rfl⟩ := List.getElem_of_mem hrs
        have : ¬ k < n := fun hk => hlt ⟨hk, by omega⟩
        exact hsm.out (by omega) j hj (by rw [hn.out] at hj; omega)
      by_cases hkn : k < n
      · have hmm : ¬ m < 1048576 := fun h => hlt ⟨hkn, h⟩
        clear hlt hsm
        go_wp2_with fail
        go_loop [3, 5] (fun x i => ∃ (m2 : Int) (j : Nat), j ≤ s ∧ i = .int .i64 j ∧ x = .int .i64 m2 ∧ m ≤ m2 ∧ m2 ≤ 4000000000000000) (fun _ i => s - (intOf i).toNat)
        case atStart => exact ⟨m, 0, by omega, rfl, rfl, by omega, by omega⟩
        case round =>
          obtain ⟨m2, j, hj, rfl, rfl, hmm1, hmm2⟩ := hrel
          by_cases hlt2 : j < s ∧ m2 < 1048576
          · exact absurd hlt2.2 (by omega)
          · by_cases hjs : j < s
            · have hms : ¬ m2 < 1048576 := fun h => hlt2 ⟨hjs, h⟩
              clear hlt2
              go_wp2_with fail
              go_ret
              exact ⟨_, rfl, fun h => hex.out (by simp at h; omega), hb⟩
            · clear hlt2
              go_wp2_with fail
              go_ret
              exact ⟨_, rfl, fun h => hex.out (by simp at h; omega), hb⟩
      · clear hlt hsm
        go_wp2_with fail
        go_loop [3, 5] (fun x i => ∃ (m2 : Int) (j : Nat), j ≤ s ∧ i = .int .i64 j ∧ x = .int .i64 m2 ∧ m ≤ m2 ∧ m2 ≤ 4000000000000000) (fun _ i => s - (intOf i).toNat)
        case atStart => exact ⟨m, 0, by omega, rfl, rfl, by omega, by omega⟩
        case round =>
          obtain ⟨m2, j, hj, rfl, rfl, hmm1, hmm2⟩ := hrel
          by_cases hlt2 : j < s ∧ m2 < 1048576
          · obtain ⟨hlt2, hms⟩ := hlt2
            have hjl : j < S.length := by rw [hs.out]; exact hlt2
            obtain ⟨g, off, rfl, _, hg, a0⟩ := strs_at (H2.out.below hb) j hjl
            have hfl := hwS S[j] (List.getElem_mem hjl)
            unfold reachBytes at hfl
            obtain ⟨x, hx⟩ : ∃ x, Hid (S[j] = x) := ⟨_, Lib.hid rfl⟩
            rw [hx.out] at a0 hfl
            obtain ⟨fl, hfl2⟩ : ∃ f, Hid (x.length = f) := ⟨_, Lib.hid rfl⟩
            have hsz : (⟨x.toArray⟩ : ByteArray).size = fl := by rw [← hfl2.out]; simp [ByteArray.size]
            rw [hfl2.out] at hfl
            go_wp2_with fail
            go_round
            case rel => exact ⟨m2 + fl, j + 1, by omega, by go_num, rfl, by omega, by omega⟩
            case measure => simp [intOf]; omega
          · by_cases hjs : j < s
            · have hms : ¬ m2 < 1048576 := fun h => hlt2 ⟨hjs, h⟩
              clear hlt2
              go_wp2_with fail
              go_ret
              exact ⟨_, rfl, fun h => hex.out (by simp at h; omega), hb⟩
            · clear hlt2
              go_wp2_with fail
              go_ret
              exact ⟨_, rfl, fun h => hex.out (by simp at h; omega), hb⟩

end Go.Proofs.YthdicdkgfmiepaaGreatDoor
