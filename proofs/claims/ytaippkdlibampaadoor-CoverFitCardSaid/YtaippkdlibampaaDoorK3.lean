/- What rules weigh: what is not heavy is small. CopyPat, CopyPats, CopyRule, CopyRules walked. Ops: which there are, how many kids; forms: letters and digits. Which patterns may be: desc.size and the reference's pat walked. Which patterns may be, by the reference: gantletref11.pat walked. -/
import Derived.Test.YtaippkdlibampaaDoorK2
import Derived.IntWalk
namespace Go.Proofs.YtaippkdlibampaaDoor

/- What rules weigh: what is not heavy is small. -/
section
open Go.RowKit

mutual
/-- no node has more kids than are ever counted -/
def PatSmall : Pat → Prop
  | .mk _ _ ks => ks.length ≤ 1048576 ∧ PatsSmall ks
def PatsSmall : List Pat → Prop
  | [] => True
  | p :: ps => PatSmall p ∧ PatsSmall ps
end
theorem patsSmall_of : ∀ ps : List Pat, (∀ j (h : j < ps.length), PatSmall ps[j]) → PatsSmall ps
  | [], _ => by unfold PatsSmall; trivial
  | p :: ps, h => by unfold PatsSmall; exact ⟨h 0 (by simp), patsSmall_of ps fun j hj => h (j + 1) (by simpa using hj)⟩
theorem PatsSmall.at_ : ∀ {ps : List Pat}, PatsSmall ps → ∀ j (h : j < ps.length), PatSmall ps[j]
  | p :: ps, h, 0, _ => by unfold PatsSmall at h; exact h.1
  | p :: ps, h, j + 1, hj => by unfold PatsSmall at h; exact PatsSmall.at_ h.2 j (by simpa using hj)
theorem patSmall_of (p : Pat) (h1 : p.kids.length ≤ 1048576) (h2 : ∀ j (h : j < p.kids.length), PatSmall p.kids[j]) : PatSmall p := by
  cases p; unfold PatSmall; exact ⟨h1, patsSmall_of _ h2⟩
theorem PatSmall.len {p : Pat} (h : PatSmall p) : p.kids.length ≤ 1048576 := by cases p; unfold PatSmall at h; exact h.1
theorem PatSmall.kid {p : Pat} (h : PatSmall p) : ∀ j (h : j < p.kids.length), PatSmall p.kids[j] := by cases p; unfold PatSmall at h; exact h.2.at_

def WeighPost (top : Int) (S : Prop) (w : World) (e : Ending) (w' : World) : Prop := ∃ n : Int, e = .returned (.int .i64 n) ∧ 0 ≤ n ∧ n ≤ top ∧ (n < 1048576 → S) ∧ Below w.heap.size w w'

def PatWOk (p : Pat) : Prop := ∀ (A : Option Addr) (c d : Nat) (w : World), PatIn w A c p → d ≤ 1000 →
  Calls Tryd.prog 92 #[.agg #[.int .i64 p.op, .int .i64 p.nt, .slice A p.kids.length c], .int .i64 d] w (fun e w' => WeighPost (1048576 * (d + 1)) (PatSmall p) w e w' ∧ e ≠ .returned (.int .i64 0))

set_option maxHeartbeats 2000000 in
theorem patW_of (p : Pat) (ih : ∀ i (h : i < p.kids.length), PatWOk p.kids[i]) : PatWOk p := by
  intro A c d w hp hd
  have hkp := hp.kids
  have hle := hkp.le
  unfold maxLen at hle
  obtain ⟨n, hn⟩ : ∃ n, Hid (p.kids.length = n) := ⟨_, Lib.hid rfl⟩
  rw [hn.out] at hle ⊢
  have HK : Hid (PatsIn w A c p.kids) := Lib.hid hkp
  clear hp hkp
  by_cases hd0 : d = 0
  · subst hd0
    go_enter Tryd.func92, Tryd.ntmps92
    go_wp2_with fail
    go_ret
    exact ⟨⟨_, rfl, by omega, by omega, fun h => absurd h (by omega), below_alloc _ _⟩, by simp⟩
  · have hd1 : 1 ≤ d := by omega
    have hde : ((d : Int) == 0) = false := by simp; omega
    go_enter Tryd.func92, Tryd.ntmps92
    go_wp2_with fail
    have hbox : BlkIs (w.alloc (.cells #[.int .i64 p.op, .int .i64 p.nt, .slice A n c] 31)) w.heap.size 31 #[.int .i64 p.op, .int .i64 p.nt, .slice A n c] := BlkIs.fresh _ _ _
    have hb0 := below_alloc w (.cells #[.int .i64 p.op, .int .i64 p.nt, .slice A n c] 31)
    go_loopw [5, 6] (fun s i wr => ∃ (m : Int) (k : Nat), k ≤ n ∧ i = .int .i64 k ∧ s = .int .i64 m ∧ 1 + (k : Int) ≤ m ∧ m ≤ 1048576 * (d + 1) ∧ Below w.heap.size w wr ∧ BlkIs wr w.heap.size 31 #[.int .i64 p.op, .int .i64 p.nt, .slice A n c] ∧ Hid (m < 1048576 → ∀ j (h : j < p.kids.length), j < k → PatSmall p.kids[j])) (fun _ i _ => n - (intOf i).toNat)
    case atStart => exact ⟨1, 0, by omega, rfl, rfl, by omega, by omega, hb0, hbox, Lib.hid (fun _ j _ h => absurd h (by omega))⟩
    case round =>
      obtain ⟨m, k, hk, rfl, rfl, hm1, hm2, hb, hbk, hsm⟩ := hrel
      clear hbox hb0
      obtain ⟨wo, rfl⟩ : ∃ wo : World, wo = wr := ⟨_, rfl⟩
      have hbz := hbk.lt
      have hc2 : wo.cell? ⟨w.heap.size, 2, none⟩ = some (.slice A n c) := hbk.cell 2
      by_cases hlt : k < n
      · by_cases hmm : m < 1048576
        · have hkl : k < p.kids.length := by rw [hn.out]; exact hlt
          obtain ⟨ok, hps⟩ := HK.out.below hb
          obtain ⟨g, off, B, c', rfl, _, hg, ⟨a0, a1, a2⟩, hpi⟩ := pats_at hps k hkl
          have hcall := fun W => ih k hkl B c' (d - 1) W
          obtain ⟨q, hq⟩ : ∃ q, Hid (p.kids[k] = q) := ⟨_, Lib.hid rfl⟩
          rw [hq.out] at a0 a1 a2 hpi hcall
          have e1 : ((d - 1 : Nat) : Int) = (d : Int) - 1 := by omega
          rw [e1] at hcall
          have HP : Hid (PatIn wo B c' q) := Lib.hid ⟨_, hpi⟩
          clear hps hpi e1
          go_wp2_with fail
          refine (hcall _ HP.out (by omega)).mono ?_
          rintro e w3 ⟨⟨m2, rfl, h1, h2, h3, hb3⟩, hne⟩
          have hm3 : 1 ≤ m2 := by
            have : m2 ≠ 0 := fun h => hne (by rw [h])
            omega
          have H3 := Lib.hid h3
          clear h3 hne hcall
          have hd2 : (d : Int) ≤ 1000 := by omega
          go_wp2_with fail
          go_roundw
          case rel =>
            refine ⟨m + m2, k + 1, by omega, by go_num, rfl, by omega, by omega, hb.trans (hb3.mono hb.size), hbk.below hb3 hbz, Lib.hid (fun hlt2 j hj hjk => ?_)⟩
            by_cases e : j = k
            · subst e; rw [hq.out]; exact H3.out (by omega)
            · exact hsm.out hmm j hj (by omega)
          case measure => simp [intOf]; omega
        · go_wp2_with fail
          go_ret
          exact ⟨⟨m, rfl, by omega, by omega, fun h => absurd h (by omega), hb⟩, by simp; omega⟩
      · obtain rfl : k = n := by omega
        go_wp2_with fail
        go_ret
        exact ⟨⟨m, rfl, by omega, by omega, fun h => patSmall_of p (by rw [hn.out]; omega) (fun j hj => hsm.out h j hj (by rw [← hn.out]; exact hj)), hb⟩, by simp; omega⟩

theorem patW_any : ∀ p : Pat, PatWOk p
  | .mk op nt kids => patW_of _ fun i h => patW_any kids[i]
termination_by p => SizeOf.sizeOf p
decreasing_by
  have := List.sizeOf_lt_of_mem (List.getElem_mem h)
  simp only [Pat.kids] at this
  simp only [Pat.mk.sizeOf_spec]
  omega

/-- rules that are small: their number, their patterns -/
def RulesSmall (rs : List Rule) : Prop := rs.length ≤ 1048576 ∧ ∀ j (h : j < rs.length), PatSmall rs[j].pat

def RulesIn (w : World) (A : Option Addr) (c : Nat) (rs : List Rule) : Prop := ∃ ok, Rep w ok (.lst 6 (rs.map encR)) [.slice A rs.length c]
theorem RulesIn.below {w w' : World} {A : Option Addr} {c : Nat} {rs : List Rule} (h : RulesIn w A c rs) (hb : Below w.heap.size w w') : RulesIn w' A c rs := by
  obtain ⟨ok, h⟩ := h; exact ⟨ok, h.below hb⟩
theorem RulesIn.le {w : World} {A : Option Addr} {c : Nat} {rs : List Rule} (h : RulesIn w A c rs) : rs.length ≤ maxLen := by
  obtain ⟨ok, h⟩ := h
  obtain ⟨A', c', he, h1, h2⟩ := h.len
  rw [List.length_map] at h1
  omega

set_option maxHeartbeats 2000000 in
theorem rulesW_any (rs : List Rule) (hf : ∀ r ∈ rs, r.form.length ≤ reachBytes) (hl0 : rs.length ≤ reachBytes) (A : Option Addr) (c : Nat) (w : World) (hr : RulesIn w A c rs) :
    Calls Tryd.prog 48 #[.slice A rs.length c] w (WeighPost 1000000000000000 (RulesSmall rs) w) := by
  unfold reachBytes at hl0
  obtain ⟨n, hn⟩ : ∃ n, Hid (rs.length = n) := ⟨_, Lib.hid rfl⟩
  have HR : Hid (RulesIn w A c rs) := Lib.hid hr
  rw [hn.out] at hl0 ⊢
  clear hr
  go_enter Tryd.func48, Tryd.ntmps48
  go_wp2_with fail
  go_loopw [3, 4] (fun s i wr => ∃ (m : Int) (k : Nat), k ≤ n ∧ i = .int .i64 k ∧ s = .int .i64 m ∧ (n : Int) ≤ m ∧ m ≤ 1000000000000000 ∧ Below w.heap.size w wr ∧ Hid (m < 1048576 → ∀ j (h : j < rs.length), j < k → PatSmall rs[j].pat)) (fun _ i _ => n - (intOf i).toNat)
  case atStart => exact ⟨n, 0, by omega, rfl, rfl, by omega, by omega, Below.refl _ _, Lib.hid (fun _ j _ h => absurd h (by omega))⟩
  case round =>
    obtain ⟨m, k, hk, rfl, rfl, hm1, hm2, hb, hsm⟩ := hrel
    obtain ⟨wo, rfl⟩ : ∃ wo : World, wo = wr := ⟨_, rfl⟩
    by_cases hlt : k < n
    · by_cases hmm : m < 1048576
      · have hkl : k < rs.length := by rw [hn.out]; exact hlt
        obtain ⟨ok, hrs⟩ := HR.out.below hb
        obtain ⟨g, off, B, c', rfl, _, hg, ⟨a0, a1, a2, a3, a4, a5⟩, _, hpi⟩ := rules_at hrs k hkl
        have hfl := hf rs[k] (List.getElem_mem hkl)
        unfold reachBytes at hfl
        obtain ⟨r, hre⟩ : ∃ r, Hid (rs[k] = r) := ⟨_, Lib.hid rfl⟩
        rw [hre.out] at a0 a1 a2 a3 a4 a5 hpi hfl
        have hcall := fun W => patW_any r.pat B c' 20 W
        obtain ⟨fl, hfl2⟩ : ∃ x, Hid (r.form.length = x) := ⟨_, Lib.hid rfl⟩
        have hsz : (⟨r.form.toArray⟩ : ByteArray).size = fl := by rw [← hfl2.out]; simp [ByteArray.size]
        rw [hfl2.out] at hfl
        have HP : Hid (PatIn wo B c' r.pat) := Lib.hid ⟨_, hpi⟩
        clear hrs hpi
        go_wp2_with fail
        go_region_held3 (fun W => W.cell? ⟨g, off + k * 6 + 1, none⟩ = some (.int .i64 r.pat.op) ∧ W.cell? ⟨g, off + k * 6 + 2, none⟩ = some (.int .i64 r.pat.nt) ∧ W.cell? ⟨g, off + k * 6 + 3, none⟩ = some (.slice B r.pat.kids.length c') ∧ W.cell? ⟨g, off + k * 6 + 5, none⟩ = some (.string ⟨r.form.toArray⟩)) ((refine ⟨?_, ?_, ?_, ?_⟩ <;> (with_reducible (repeat (first | assumption | refine cell_drewN ?_ _ | refine cell_drew ?_)))))
          ((go_at_call 92; refine (hcall _ (show PatIn _ _ _ _ from by with_reducible (repeat (first | exact HP.out | refine PatIn.drewN ?_ _ | refine PatIn.drew ?_))) (by omega)).mono ?_; rintro e w3 ⟨⟨m2, rfl, h1, h2, h3, hb3⟩, hne⟩; obtain ⟨x1, x2, x3⟩ := later3 hb3 ⟨a1, a2, a3⟩; have x5 := cell_later hb3 a5))
        go_wp2_with fail
        have e1 : IntKind.i64.wrap (IntKind.i64.wrap (m + (fl : Int)) + m2) = m + fl + m2 := by
          rw [IntWalk.i64_in (m + (fl : Int)) (by omega), IntWalk.i64_in _ (by omega)]
        rw [e1]
        have hb4 : Below w.heap.size w w3 := hb.trans (((Below.refl _ _).drew).trans (hb3.mono hb.size))
        go_roundw
        case rel =>
          refine ⟨m + fl + m2, k + 1, by omega, by go_num, rfl, by omega, by omega, hb4, Lib.hid (fun hlt2 j hj hjk => ?_)⟩
          by_cases e : j = k
          · subst e; rw [hre.out]; exact h3 (by omega)
          · exact hsm.out hmm j hj (by omega)
        case measure => simp [intOf]; omega
      · go_wp2_with fail
        go_ret
        exact ⟨m, rfl, by omega, by omega, fun h => absurd h (by omega), hb⟩
    · obtain rfl : k = n := by omega
      go_wp2_with fail
      go_ret
      exact ⟨m, rfl, by omega, by omega, fun h => ⟨by rw [hn.out]; omega, fun j hj => hsm.out h j hj (by rw [← hn.out]; exact hj)⟩, hb⟩

def HeavyPost (L : List (List Rule)) (w : World) (e : Ending) (w' : World) : Prop := ∃ b : Bool, e = .returned (.bool b) ∧ (b = false → ∀ rs ∈ L, RulesSmall rs) ∧ Below w.heap.size w w'

theorem encRs_eq (rs : List Rule) : encRs rs = .lst 6 (rs.map encR) := by unfold encRs; rfl

/-- row k of a slice of slices of rules -/
theorem lists_at {w : World} {ok : Nat → Prop} {L : List (List Rule)} {A : Option Addr} {n c : Nat} (h : Rep w ok (.lst 1 (L.map encRs)) [.slice A n c]) (k : Nat) (hk : k < L.length) :
    ∃ (g off : Nat) (B : Option Addr) (d : Nat), A = some ⟨g, off, none⟩ ∧ g < w.heap.size ∧ w.cell? ⟨g, off + k, none⟩ = some (.slice B (L[k]).length d) ∧ RulesIn w B d L[k] := by
  obtain ⟨g, off, a, hA, hok, hlt, hl, hr, hc⟩ := h.at_ k (by simpa using hk)
  rw [List.getElem_map, encRs_eq] at hr
  obtain ⟨B, d, rfl, _, _, h2⟩ := rep_lst_inv hr
  rw [List.length_map (f := encR)] at h2 hc
  exact ⟨g, off, B, d, hA, hlt, by have := hc 0 (by omega); simpa using this, ⟨_, h2⟩⟩

set_option maxHeartbeats 2000000 in
theorem heavy11_any (L : List (List Rule)) (S : List (List UInt8)) (A1 A2 : Option Addr) (c1 c2 : Nat) (w : World) (hwf : AskWf L S)
    (h1 : Rep w (fun _ => True) (.lst 1 (L.map encRs)) [.slice A1 L.length c1]) (h2 : Rep w (fun _ => True) (.lst 1 (S.map .str)) [.slice A2 S.length c2]) :
    Calls Tryd.prog 16 #[.agg #[.slice A1 L.length c1, .slice A2 S.length c2]] w (HeavyPost L w) := by
  obtain ⟨hL, hS, hwL, hwS⟩ := hwf
  unfold reachBytes at hL hS
  obtain ⟨n, hn⟩ : ∃ n, Hid (L.length = n) := ⟨_, Lib.hid rfl⟩
  obtain ⟨s, hs⟩ : ∃ s, Hid (S.length = s) := ⟨_, Lib.hid rfl⟩
  rw [hn.out] at hL h1 ⊢
  rw [hs.out] at hS h2 ⊢
  have H1 := Lib.hid h1
  have H2 := Lib.hid h2
  clear h1 h2
  go_enter Tryd.func16, Tryd.ntmps16
  go_wp2_with fail
  have hbox : BlkIs (w.alloc (.cells #[.slice A1 n c1, .slice A2 s c2] 25)) w.heap.size 25 #[.slice A1 n c1, .slice A2 s c2] := BlkIs.fresh _ _ _
  have hb0 := below_alloc w (.cells #[.slice A1 n c1, .slice A2 s c2] 25)
  go_loopw [3, 4] (fun x i wr => ∃ (m : Int) (k : Nat), k ≤ n ∧ i = .int .i64 k ∧ x = .int .i64 m ∧ 0 ≤ m ∧ m ≤ 4000000000000000 ∧ Below w.heap.size w wr ∧ BlkIs wr w.heap.size 25 #[.slice A1 n c1, .slice A2 s c2] ∧ Hid (m < 1048576 → ∀ j (h : j < L.length), j < k → RulesSmall L[j])) (fun _ i _ => n - (intOf i).toNat)
  case atStart => exact ⟨s + n, 0, by omega, rfl, rfl, by omega, by omega, hb0, hbox, Lib.hid (fun _ j _ h => absurd h (by omega))⟩
  case round =>
    obtain ⟨m, k, hk, rfl, rfl, hm1, hm2, hb, hbk, hsm⟩ := hrel
    clear hbox hb0
    obtain ⟨wo, rfl⟩ : ∃ wo : World, wo = wr := ⟨_, rfl⟩
    have hbz := hbk.lt
    have hc0 : wo.cell? ⟨w.heap.size, 0, none⟩ = some (.slice A1 n c1) := hbk.cell 0
    have hc1 : wo.cell? ⟨w.heap.size, 1, none⟩ = some (.slice A2 s c2) := hbk.cell 1
    by_cases hlt : k < n ∧ m < 1048576
    · obtain ⟨hlt, hmm⟩ := hlt
      have hkl : k < L.length := by rw [hn.out]; exact hlt
      obtain ⟨g, off, B, d, rfl, hg, a0, hri⟩ := lists_at (H1.out.below hb) k hkl
      have hcall := fun W => rulesW_any L[k] (fun r hr => ((hwL _ (List.getElem_mem hkl)).2 r hr).2.2.2) (hwL _ (List.getElem_mem hkl)).1 B d W
      obtain ⟨rs, hrs⟩ : ∃ rs, Hid (L[k] = rs) := ⟨_, Lib.hid rfl⟩
      rw [hrs.out] at a0 hri hcall
      have HI := Lib.hid hri
      clear hri
      go_wp2_with fail
      refine (hcall _ HI.out).mono ?_
      rintro e w3 ⟨m2, rfl, h1, h2, h3, hb3⟩
      have H3 := Lib.hid h3
      clear h3 hcall
      go_wp2_with fail
      go_roundw
      case rel =>
        refine ⟨m + m2, k + 1, by omega, by go_num, rfl, by omega, by omega, hb.trans (hb3.mono hb.size), hbk.below hb3 hbz, Lib.hid (fun hlt2 j hj hjk => ?_)⟩
        by_cases e : j = k
        · subst e; rw [hrs.out]; exact H3.out (by omega)
        · exact hsm.out hmm j hj (by omega)
      case measure => simp [intOf]; omega
    · have hex : Hid (m ≤ 8000 → ∀ rs ∈ L, RulesSmall rs) := by
        refine Lib.hid (fun h rs hrs => ?_)
        obtain ⟨j, hj, rfl⟩ := List.getElem_of_mem hrs
        have : ¬ k < n := fun hk => hlt ⟨hk, by omega⟩
        exact hsm.out (by omega) j hj (by rw [hn.out] at hj; omega)
      by_cases hkn : k < n
      · have hmm : ¬ m < 1048576 := fun h => hlt ⟨hkn, h⟩
        clear hlt hsm
        go_wp2_with fail
        go_loop [3, 5] (fun x i => ∃ (m2 : Int) (j : Nat), j ≤ s ∧ i = .int .i64 j ∧ x = .int .i64 m2 ∧ m ≤ m2 ∧ m2 ≤ 4000000000000000) (fun _ i => s - (intOf i).toNat)
        case atStart => exact ⟨m, 0, by omega, rfl, rfl, by omega, by omega⟩
        case round =>
          obtain ⟨m2, j, hj, rfl, rfl, hmm1, hmm2⟩ := hrel
          by_cases hlt2 : j < s ∧ m2 < 1048576
          · exact absurd hlt2.2 (by omega)
          · by_cases hjs : j < s
            · have hms : ¬ m2 < 1048576 := fun h => hlt2 ⟨hjs, h⟩
              clear hlt2
              go_wp2_with fail
              go_ret
              exact ⟨_, rfl, fun h => hex.out (by simp at h; omega), hb⟩
            · clear hlt2
              go_wp2_with fail
              go_ret
              exact ⟨_, rfl, fun h => hex.out (by simp at h; omega), hb⟩
      · clear hlt hsm
        go_wp2_with fail
        go_loop [3, 5] (fun x i => ∃ (m2 : Int) (j : Nat), j ≤ s ∧ i = .int .i64 j ∧ x = .int .i64 m2 ∧ m ≤ m2 ∧ m2 ≤ 4000000000000000) (fun _ i => s - (intOf i).toNat)
        case atStart => exact ⟨m, 0, by omega, rfl, rfl, by omega, by omega⟩
        case round =>
          obtain ⟨m2, j, hj, rfl, rfl, hmm1, hmm2⟩ := hrel
          by_cases hlt2 : j < s ∧ m2 < 1048576
          · obtain ⟨hlt2, hms⟩ := hlt2
            have hjl : j < S.length := by rw [hs.out]; exact hlt2
            obtain ⟨g, off, rfl, _, hg, a0⟩ := strs_at (H2.out.below hb) j hjl
            have hfl := hwS S[j] (List.getElem_mem hjl)
            unfold reachBytes at hfl
            obtain ⟨x, hx⟩ : ∃ x, Hid (S[j] = x) := ⟨_, Lib.hid rfl⟩
            rw [hx.out] at a0 hfl
            obtain ⟨fl, hfl2⟩ : ∃ f, Hid (x.length = f) := ⟨_, Lib.hid rfl⟩
            have hsz : (⟨x.toArray⟩ : ByteArray).size = fl := by rw [← hfl2.out]; simp [ByteArray.size]
            rw [hfl2.out] at hfl
            go_wp2_with fail
            go_round
            case rel => exact ⟨m2 + fl, j + 1, by omega, by go_num, rfl, by omega, by omega⟩
            case measure => simp [intOf]; omega
          · by_cases hjs : j < s
            · have hms : ¬ m2 < 1048576 := fun h => hlt2 ⟨hjs, h⟩
              clear hlt2
              go_wp2_with fail
              go_ret
              exact ⟨_, rfl, fun h => hex.out (by simp at h; omega), hb⟩
            · clear hlt2
              go_wp2_with fail
              go_ret
              exact ⟨_, rfl, fun h => hex.out (by simp at h; omega), hb⟩

end

/- CopyPat, CopyPats, CopyRule, CopyRules walked. -/
section
open Go.RowKit

theorem pat_info : (Tryd.prog.info? 31).map (fun i => (i.zero, i.size, i.bytes)) = some (some (.agg #[.int .i64 0, .int .i64 0, .slice none 0 0]), 3, 40) := by kernel_rfl

def PatRet (p : Pat) (w : World) (e : Ending) (w' : World) : Prop :=
  ∃ (A : Option Addr) (c : Nat), e = .returned (.agg #[.int .i64 p.op, .int .i64 p.nt, .slice A p.kids.length c]) ∧ Rep w' (fun g => w.heap.size ≤ g) (encP p) [.int .i64 p.op, .int .i64 p.nt, .slice A p.kids.length c] ∧ Below w.heap.size w w'

def CopyOk (p : Pat) : Prop := ∀ (A : Option Addr) (c : Nat) (w : World), PatIn w A c p → Calls Tryd.prog 93 #[.agg #[.int .i64 p.op, .int .i64 p.nt, .slice A p.kids.length c]] w (PatRet p w)

def OwnRet (T : TypeId) (z : Nat) (ds : List D) (w : World) (e : Ending) (w' : World) : Prop := ∃ v, e = .returned v ∧ Own w' w.heap.size (fun g => w.heap.size ≤ g) T z v ds ∧ Below w.heap.size w w'

theorem take_map {α β : Type} (f : α → β) (l : List α) (k : Nat) (h : k < l.length) : (l.take (k + 1)).map f = (l.take k).map f ++ [f l[k]] := by
  rw [List.take_succ_eq_append_getElem h, List.map_append]; rfl

set_option maxHeartbeats 2000000 in
theorem copyPats_of (ps : List Pat) (hs : ps.length ≤ 1048576) (ih : ∀ i (h : i < ps.length), CopyOk ps[i]) (A : Option Addr) (c : Nat) (w : World) (hp : PatsIn w A c ps) :
    Calls Tryd.prog 117 #[.slice A ps.length c] w (OwnRet 31 3 (ps.map encP) w) := by
  obtain ⟨n, hn⟩ : ∃ n, Hid (ps.length = n) := ⟨_, Lib.hid rfl⟩
  rw [hn.out] at hs ⊢
  have HP := Lib.hid hp
  clear hp
  go_enter Tryd.func117, Tryd.ntmps117
  go_wp2_with fail
  go_loopw [3, 4] (fun v i wr => ∃ k : Nat, k ≤ n ∧ i = .int .i64 k ∧ Own wr w.heap.size (fun g => w.heap.size ≤ g) 31 3 v ((ps.take k).map encP) ∧ Below w.heap.size w wr) (fun _ i _ => n - (intOf i).toNat)
  case atStart => exact ⟨0, by omega, rfl, Own.nil _ _ _ _ _, Below.refl _ _⟩
  case round =>
    obtain ⟨k, hk, rfl, hown, hb⟩ := hrel
    obtain ⟨wo, rfl⟩ : ∃ wo : World, wo = wr := ⟨_, rfl⟩
    by_cases hlt : k < n
    · have hkl : k < ps.length := by rw [hn.out]; exact hlt
      obtain ⟨ok, hps⟩ := HP.out.below hb
      obtain ⟨g, off, B, c', rfl, _, hg, ⟨a0, a1, a2⟩, hpi⟩ := pats_at hps k hkl
      have hcall := fun W => ih k hkl B c' W
      have hts := Lib.hid (take_map encP ps k hkl)
      obtain ⟨q, hq⟩ : ∃ q, Hid (ps[k] = q) := ⟨_, Lib.hid rfl⟩
      rw [hq.out] at a0 a1 a2 hpi hcall hts
      have hlen : ((ps.take k).map encP).length ≤ 1000000000 := by simp; omega
      have HQ : Hid (PatIn wo B c' q) := Lib.hid ⟨_, hpi⟩
      have hbz := hb.size
      clear hps hpi
      go_wp2_with fail
      refine (hcall _ HQ.out).mono ?_
      rintro e w3 ⟨A3, c3, rfl, hp3, hb3⟩
      have HP3 := Lib.hid hp3
      have hb3z := hb3.size
      clear hp3 hcall
      go_wp2_with (at_builtin; go_must (refine append_one rfl (.tmp 11) (.tmp 17) 29 31 3 40 _ rfl Tryd.underlying29 pat_info rfl (by decide) (by decide) w.heap.size (fun g => w.heap.size ≤ g) _ _ rfl w3.heap.size rfl ((hown.below hb3).alloc _) [.int .i64 q.op, .int .i64 q.nt, .slice A3 q.kids.length c3] (encP q) (BlkIs.fresh _ _ _) rfl (by simp [Value.oneCell']) ((HP3.out.imp (fun g hg _ => ⟨by omega, hown.ne_far hg⟩)).alloc _) hlen (by simp; omega) ?_); intro v2 w2 hown2 hb2 hk2)
      go_roundw
      case rel => exact ⟨k + 1, by omega, by go_num, by rw [hts.out]; exact hown2, (((hb.trans (hb3.mono hbz))).alloc (by omega) _).trans hb2⟩
      case measure => simp [intOf]; omega
    · obtain rfl : k = n := by omega
      go_wp2_with fail
      go_ret
      have h1 : ps.take k = ps := List.take_of_length_le (by rw [hn.out]; omega)
      rw [h1] at hown
      exact ⟨_, rfl, hown, hb⟩

theorem rep_pat_mk {w : World} {ok : Nat → Prop} {p : Pat} {A : Option Addr} {c : Nat} (h : Rep w ok (.lst 3 (p.kids.map encP)) [.slice A p.kids.length c]) : Rep w ok (encP p) [.int .i64 p.op, .int .i64 p.nt, .slice A p.kids.length c] := by
  cases p with
  | mk op nt ks => exact rep_pat (by rw [encPs_map]; exact h)

theorem below_box3 (w : World) (o o' o'' : Obj) : Below w.heap.size w (((w.alloc o).alloc o').alloc o'') := ((below_alloc w o).alloc (by simp) _).alloc (by simp; omega) _

set_option maxHeartbeats 2000000 in
theorem copyPat_of (p : Pat) (hs : p.kids.length ≤ 1048576) (ih : ∀ i (h : i < p.kids.length), CopyOk p.kids[i]) : CopyOk p := by
  intro A c w hp
  have hcall := fun W => copyPats_of p.kids hs ih A c W
  have HP := Lib.hid hp.kids
  clear hp hs ih
  go_enter Tryd.func93, Tryd.ntmps93
  go_wp2_with fail
  refine (hcall _ ?_).mono ?_
  · refine PatsIn.below ?_ (below_alloc _ _)
    refine PatsIn.below ?_ (below_alloc _ _)
    exact PatsIn.below HP.out (below_alloc _ _)
  rintro e w3 ⟨v, rfl, hown, hb3⟩
  have hrep := hown.rep
  obtain ⟨A3, c3, rfl, _⟩ := hrep.len
  rw [List.length_map] at hrep ⊢
  have HR := Lib.hid hrep
  obtain ⟨hc, hf⟩ := bcell hb3
  have hz3 : w.heap.size + 2 < w3.heap.size := by have := hb3.size; simp at this; omega
  have hz31 : w.heap.size + 1 < w3.heap.size := by omega
  clear hown hrep hcall
  go_wp2_with fail
  refine bodyPost_ret (v := .agg #[.int .i64 p.op, .int .i64 p.nt, .slice A3 p.kids.length c3]) (by simp [results, Tryd.results93, go_sem, hc]) rfl ?_
  refine ⟨A3, c3, rfl, rep_pat_mk ?_, ?_⟩
  · refine Rep.imp (ok := fun g => w.heap.size + 3 ≤ g) ?_ (fun g hg _ => by omega)
    iterate 4 refine Rep.setCell ?_ (fun g hg => by simp; omega)
    exact Rep.imp HR.out (fun g hg _ => by simp at hg; omega)
  · iterate 4 refine Below.setCell ?_ (by simp; try omega) _
    exact (below_box3 _ _ _ _).trans (hb3.mono (by simp; omega))

theorem copyPat_any : ∀ p : Pat, PatSmall p → CopyOk p
  | .mk op nt kids, h => copyPat_of _ h.len fun i hi => copyPat_any kids[i] (h.kid i hi)
termination_by p => SizeOf.sizeOf p
decreasing_by
  have := List.sizeOf_lt_of_mem (List.getElem_mem hi)
  simp only [Pat.kids] at this
  simp only [Pat.mk.sizeOf_spec]
  omega

def RuleRet1 (r : Rule) (w : World) (e : Ending) (w' : World) : Prop :=
  ∃ (A : Option Addr) (c : Nat), e = .returned (.agg #[.int .i64 r.nt, .int .i64 r.pat.op, .int .i64 r.pat.nt, .slice A r.pat.kids.length c, .int .i64 r.cost, .string ⟨r.form.toArray⟩]) ∧
    Rep w' (fun g => w.heap.size ≤ g) (encR r) [.int .i64 r.nt, .int .i64 r.pat.op, .int .i64 r.pat.nt, .slice A r.pat.kids.length c, .int .i64 r.cost, .string ⟨r.form.toArray⟩] ∧ Below w.heap.size w w'

set_option maxHeartbeats 2000000 in
theorem copyRule_any (r : Rule) (hs : PatSmall r.pat) (A : Option Addr) (c : Nat) (w : World) (hp : PatIn w A c r.pat) :
    Calls Tryd.prog 49 #[.agg #[.int .i64 r.nt, .int .i64 r.pat.op, .int .i64 r.pat.nt, .slice A r.pat.kids.length c, .int .i64 r.cost, .string ⟨r.form.toArray⟩]] w (RuleRet1 r w) := by
  have hcall := fun W => copyPat_any r.pat hs A c W
  have HP := Lib.hid hp
  clear hp hs
  go_enter Tryd.func49, Tryd.ntmps49
  go_wp2_with fail
  refine (hcall _ ?_).mono ?_
  · refine PatIn.below ?_ (below_alloc _ _)
    refine PatIn.below ?_ (below_alloc _ _)
    exact PatIn.below HP.out (below_alloc _ _)
  rintro e w3 ⟨A3, c3, rfl, hp3, hb3⟩
  have HR := Lib.hid hp3
  obtain ⟨hc, hf⟩ := bcell hb3
  have hz3 : w.heap.size + 2 < w3.heap.size := by have := hb3.size; simp at this; omega
  have hz31 : w.heap.size + 1 < w3.heap.size := by omega
  clear hp3 hcall
  go_wp2_with fail
  refine bodyPost_ret (v := .agg #[.int .i64 r.nt, .int .i64 r.pat.op, .int .i64 r.pat.nt, .slice A3 r.pat.kids.length c3, .int .i64 r.cost, .string ⟨r.form.toArray⟩]) (by simp [results, Tryd.results49, go_sem, hc]) rfl ?_
  refine ⟨A3, c3, rfl, rep_rule_of ?_, ?_⟩
  · refine Rep.imp (ok := fun g => w.heap.size + 3 ≤ g) ?_ (fun g hg _ => by omega)
    iterate 9 refine Rep.setCell ?_ (fun g hg => by simp; omega)
    exact Rep.imp HR.out (fun g hg _ => by simp at hg; omega)
  · iterate 9 refine Below.setCell ?_ (by simp; try omega) _
    exact (below_box3 _ _ _ _).trans (hb3.mono (by simp; omega))

set_option maxHeartbeats 2000000 in
theorem copyRules_any (rs : List Rule) (hs : RulesSmall rs) (A : Option Addr) (c : Nat) (w : World) (hp : RulesIn w A c rs) :
    Calls Tryd.prog 17 #[.slice A rs.length c] w (OwnRet 33 6 (rs.map encR) w) := by
  obtain ⟨hs1, hs2⟩ := hs
  obtain ⟨n, hn⟩ : ∃ n, Hid (rs.length = n) := ⟨_, Lib.hid rfl⟩
  rw [hn.out] at hs1 ⊢
  have HP := Lib.hid hp
  have HS := Lib.hid hs2
  clear hp hs2
  go_enter Tryd.func17, Tryd.ntmps17
  go_wp2_with fail
  go_loopw [3, 4] (fun v i wr => ∃ k : Nat, k ≤ n ∧ i = .int .i64 k ∧ Own wr w.heap.size (fun g => w.heap.size ≤ g) 33 6 v ((rs.take k).map encR) ∧ Below w.heap.size w wr) (fun _ i _ => n - (intOf i).toNat)
  case atStart => exact ⟨0, by omega, rfl, Own.nil _ _ _ _ _, Below.refl _ _⟩
  case round =>
    obtain ⟨k, hk, rfl, hown, hb⟩ := hrel
    obtain ⟨wo, rfl⟩ : ∃ wo : World, wo = wr := ⟨_, rfl⟩
    by_cases hlt : k < n
    · have hkl : k < rs.length := by rw [hn.out]; exact hlt
      obtain ⟨ok, hrs⟩ := HP.out.below hb
      obtain ⟨g, off, B, c', rfl, _, hg, ⟨a0, a1, a2, a3, a4, a5⟩, _, hpi⟩ := rules_at hrs k hkl
      have hcall := fun W => copyRule_any rs[k] (HS.out k hkl) B c' W
      have hts := Lib.hid (take_map encR rs k hkl)
      obtain ⟨q, hq⟩ : ∃ q, Hid (rs[k] = q) := ⟨_, Lib.hid rfl⟩
      rw [hq.out] at a0 a1 a2 a3 a4 a5 hpi hcall hts
      have hlen : ((rs.take k).map encR).length ≤ 1000000000 := by simp; omega
      have HQ : Hid (PatIn wo B c' q.pat) := Lib.hid ⟨_, hpi⟩
      have hbz := hb.size
      clear hrs hpi
      go_wp2_with fail
      refine (hcall _ HQ.out).mono ?_
      rintro e w3 ⟨A3, c3, rfl, hp3, hb3⟩
      have HP3 := Lib.hid hp3
      have hb3z := hb3.size
      clear hp3 hcall
      go_wp2_with (at_builtin; go_must (refine append_one rfl (.tmp 11) (.tmp 17) 26 33 6 72 _ rfl Tryd.underlying26 rule_info rfl (by decide) (by decide) w.heap.size (fun g => w.heap.size ≤ g) _ _ rfl w3.heap.size rfl ((hown.below hb3).alloc _) [.int .i64 q.nt, .int .i64 q.pat.op, .int .i64 q.pat.nt, .slice A3 q.pat.kids.length c3, .int .i64 q.cost, .string ⟨q.form.toArray⟩] (encR q) (BlkIs.fresh _ _ _) rfl (by simp [Value.oneCell']) ((HP3.out.imp (fun g hg _ => ⟨by omega, hown.ne_far hg⟩)).alloc _) hlen (by simp; omega) ?_); intro v2 w2 hown2 hb2 hk2)
      go_roundw
      case rel => exact ⟨k + 1, by omega, by go_num, by rw [hts.out]; exact hown2, (((hb.trans (hb3.mono hbz))).alloc (by omega) _).trans hb2⟩
      case measure => simp [intOf]; omega
    · obtain rfl : k = n := by omega
      go_wp2_with fail
      go_ret
      have h1 : rs.take k = rs := List.take_of_length_le (by rw [hn.out]; omega)
      rw [h1] at hown
      exact ⟨_, rfl, hown, hb⟩

end

/- Ops: which there are, how many kids; forms: letters and digits. -/
section
open Go.RowKit

theorem ret_int {k : IntKind} {a b : Int} (h : a = b) : Ending.returned (.int k a) = .returned (.int k b) := by rw [h]

def isOp (n : Int) : Bool := decide (1 ≤ n) && decide (n ≤ 36)
def isLeaf (n : Int) : Bool := decide (1 ≤ n) && decide (n ≤ 4)
def isNt (n : Int) : Bool := decide (0 ≤ n) && decide (n ≤ 3)
def arityOf (n : Int) : Int := if isLeaf n = true then 0 else if isBin n = true then 2 else 1
def kidsOf (n : Int) : Int := if isOp n = true then arityOf n else -1
def within (n a b : Int) : Bool := decide (a ≤ n) && decide (n ≤ b)

set_option maxHeartbeats 400000 in
theorem isOp_any (n : Int) (w : World) : Calls Tryd.prog 119 #[.int .i64 n] w fun e w' => e = .returned (.bool (isOp n)) ∧ w = w' := by
  go_enter Tryd.func119, Tryd.ntmps119
  go_wp2
  all_goals
    go_ret
    refine ⟨ret_bool ?_, rfl⟩
    grind [isOp]

set_option maxHeartbeats 400000 in
theorem isLeaf_any (n : Int) (w : World) : Calls Tryd.prog 127 #[.int .i64 n] w fun e w' => e = .returned (.bool (isLeaf n)) ∧ w = w' := by
  go_enter Tryd.func127, Tryd.ntmps127
  go_wp2
  all_goals
    go_ret
    refine ⟨ret_bool ?_, rfl⟩
    grind [isLeaf]

set_option maxHeartbeats 400000 in
theorem isNt_any (n : Int) (w : World) : Calls Tryd.prog 97 #[.int .i64 n] w fun e w' => e = .returned (.bool (isNt n)) ∧ w = w' := by
  go_enter Tryd.func97, Tryd.ntmps97
  go_wp2
  all_goals
    go_ret
    refine ⟨ret_bool ?_, rfl⟩
    grind [isNt]

set_option maxHeartbeats 400000 in
theorem isBinR_any (n : Int) (w : World) : Calls Tryd.prog 121 #[.int .i64 n] w fun e w' => e = .returned (.bool (isBin n)) ∧ w = w' := by
  go_enter Tryd.func121, Tryd.ntmps121
  go_wp2
  all_goals
    go_ret
    refine ⟨ret_bool ?_, rfl⟩
    grind [isBin]

set_option maxHeartbeats 400000 in
theorem between_any (n a b : Int) (w : World) : Calls Tryd.prog 34 #[.int .i64 n, .int .i64 a, .int .i64 b] w fun e w' => e = .returned (.bool (within n a b)) ∧ w = w' := by
  go_enter Tryd.func34, Tryd.ntmps34
  go_wp2
  all_goals
    go_ret
    refine ⟨ret_bool ?_, rfl⟩
    grind [within]

set_option maxHeartbeats 400000 in
theorem num0_any (n b : Int) (w : World) : Calls Tryd.prog 77 #[.int .i64 n, .int .i64 b] w fun e w' => e = .returned (.bool (within n 0 b)) ∧ w = w' := by
  go_enter Tryd.func77, Tryd.ntmps77
  go_wp2
  all_goals
    go_ret
    refine ⟨ret_bool ?_, rfl⟩
    grind [within]

set_option maxHeartbeats 400000 in
theorem arity_any (n : Int) (w : World) : Calls Tryd.prog 120 #[.int .i64 n] w fun e w' => e = .returned (.int .i64 (arityOf n)) ∧ w = w' := by
  cases h1 : isLeaf n <;> cases h2 : isBin n
  all_goals
    have c1 := fun W => isLeaf_any n W
    have c2 := fun W => binary_any n W
    rw [h1] at c1
    rw [h2] at c2
    go_enter Tryd.func120, Tryd.ntmps120
    go_wp2_with (first | (go_at_call 127; refine (c1 _).mono ?_; rintro e w' ⟨rfl, rfl⟩) | (go_at_call 86; refine (c2 _).mono ?_; rintro e w' ⟨rfl, rfl⟩))
    go_ret
    exact ⟨ret_int (by unfold arityOf; simp [h1, h2]), rfl⟩

set_option maxHeartbeats 400000 in
theorem kidsR_any (n : Int) (w : World) : Calls Tryd.prog 104 #[.int .i64 n] w fun e w' => e = .returned (.int .i64 (kidsOf n)) ∧ w = w' := by
  cases h2 : isBin n
  all_goals
    have c2 := fun W => isBinR_any n W
    rw [h2] at c2
    have H2 := Lib.hid h2
    clear h2
    go_enter Tryd.func104, Tryd.ntmps104
    go_wp2_with (go_at_call 121; refine (c2 _).mono ?_; rintro e w' ⟨rfl, rfl⟩)
    all_goals
      go_ret
      refine ⟨ret_int ?_, rfl⟩
      have h2 := H2.out
      clear c2 H2
      grind [kidsOf, arityOf, isOp, isLeaf, isBin]

/-- letters and digits -/
def isLd (b : UInt8) : Bool := (decide (97 ≤ b.toNat) && decide (b.toNat ≤ 122)) || (decide (48 ≤ b.toNat) && decide (b.toNat ≤ 57))
def formB (s : List UInt8) : Bool := s.all isLd && decide (1 ≤ s.length) && decide (s.length ≤ 12)

theorem isLd_iff (b : UInt8) : isLd b = true ↔ (97 ≤ (b.toNat : Int) ∧ (b.toNat : Int) ≤ 122) ∨ (48 ≤ (b.toNat : Int) ∧ (b.toNat : Int) ≤ 57) := by
  unfold isLd; simp; omega

theorem formB_false (s : List UInt8) (k : Nat) (h : k < s.length) (hb : isLd s[k] = false) : formB s = false := by
  unfold formB
  have : s.all isLd = false := by
    rw [List.all_eq_false]
    exact ⟨s[k], List.getElem_mem h, by simp [hb]⟩
  rw [this]; rfl

theorem formB_end (s : List UInt8) (h : ∀ j (hj : j < s.length), isLd s[j] = true) : formB s = (decide (1 ≤ s.length) && decide (s.length ≤ 12)) := by
  unfold formB
  have : s.all isLd = true := by
    rw [List.all_eq_true]
    intro x hx
    obtain ⟨j, hj, rfl⟩ := List.getElem_of_mem hx
    exact h j hj
  rw [this]; rfl

set_option maxHeartbeats 1000000 in
theorem formed_any (s : List UInt8) (hl : s.length ≤ 140737488355327) (w : World) : Calls Tryd.prog 99 #[.string ⟨s.toArray⟩] w fun e w' => e = .returned (.bool (formB s)) ∧ w = w' := by
  obtain ⟨n, hn⟩ : ∃ n, Hid (s.length = n) := ⟨_, Lib.hid rfl⟩
  have hsz : (⟨s.toArray⟩ : ByteArray).size = n := by rw [← hn.out]; simp [ByteArray.size]
  rw [hn.out] at hl
  go_enter Tryd.func99, Tryd.ntmps99
  go_wp2_with fail
  go_loop [6] (fun i => ∃ k : Nat, k ≤ n ∧ i = .int .i64 k ∧ Hid (∀ j (h : j < s.length), j < k → isLd s[j] = true)) (fun i => n - (intOf i).toNat)
  case atStart => exact ⟨0, by omega, rfl, Lib.hid (fun j _ h => absurd h (by omega))⟩
  case round =>
    obtain ⟨k, hk, rfl, hall⟩ := hrel
    by_cases hlt : k < n
    · have hkl : k < s.length := by rw [hn.out]; exact hlt
      obtain ⟨b, hb⟩ : ∃ b, Hid (s[k] = b) := ⟨_, Lib.hid rfl⟩
      have hget : ((⟨s.toArray⟩ : ByteArray)[k]'(by rw [hsz]; exact hlt)) = b := hb.out
      have hld := Lib.hid (isLd_iff b)
      go_wp2_with fail
      all_goals
        first
          | (go_round
             case rel =>
               refine ⟨k + 1, by omega, by go_num, Lib.hid (fun j hj hjk => ?_)⟩
               by_cases e : j = k
               · subst e; rw [hb.out, hld.out]; first | omega | grind
               · exact hall.out j hj (by omega)
             case measure => simp [intOf]; omega)
          | (go_ret
             refine ⟨ret_bool ?_, rfl⟩
             rw [formB_false s k hkl (by rw [hb.out, ← Bool.not_eq_true, hld.out]; first | omega | grind)])
    · obtain rfl : k = n := by omega
      have hfe : Hid (formB s = (decide (1 ≤ k) && decide (k ≤ 12))) := Lib.hid (by rw [formB_end s (fun j hj => hall.out j hj (by rw [← hn.out]; exact hj)), hn.out])
      go_wp2_with fail
      all_goals
        go_ret
        refine ⟨ret_bool ?_, rfl⟩
        rw [hfe.out]
        grind

set_option maxHeartbeats 1000000 in
theorem formR_any (s : List UInt8) (hl : s.length ≤ 140737488355327) (w : World) : Calls Tryd.prog 96 #[.string ⟨s.toArray⟩] w fun e w' => e = .returned (.bool (formB s)) ∧ w = w' := by
  obtain ⟨n, hn⟩ : ∃ n, Hid (s.length = n) := ⟨_, Lib.hid rfl⟩
  have hsz : (⟨s.toArray⟩ : ByteArray).size = n := by rw [← hn.out]; simp [ByteArray.size]
  rw [hn.out] at hl
  go_enter Tryd.func96, Tryd.ntmps96
  go_wp2_with fail
  go_loop [3] (fun i => ∃ k : Nat, k ≤ n ∧ i = .int .i64 k ∧ Hid (∀ j (h : j < s.length), j < k → isLd s[j] = true)) (fun i => n - (intOf i).toNat)
  case atStart => exact ⟨0, by omega, rfl, Lib.hid (fun j _ h => absurd h (by omega))⟩
  case round =>
    obtain ⟨k, hk, rfl, hall⟩ := hrel
    by_cases hlt : k < n
    · have hkl : k < s.length := by rw [hn.out]; exact hlt
      obtain ⟨b, hb⟩ : ∃ b, Hid (s[k] = b) := ⟨_, Lib.hid rfl⟩
      have hget : ((⟨s.toArray⟩ : ByteArray)[k]'(by rw [hsz]; exact hlt)) = b := hb.out
      have hld := Lib.hid (isLd_iff b)
      go_wp2_with fail
      all_goals
        first
          | (go_round
             case rel =>
               refine ⟨k + 1, by omega, by go_num, Lib.hid (fun j hj hjk => ?_)⟩
               by_cases e : j = k
               · subst e; rw [hb.out, hld.out]; first | omega | grind
               · exact hall.out j hj (by omega)
             case measure => simp [intOf]; omega)
          | (go_ret
             refine ⟨ret_bool ?_, rfl⟩
             rw [formB_false s k hkl (by rw [hb.out, ← Bool.not_eq_true, hld.out]; first | omega | grind)])
    · obtain rfl : k = n := by omega
      have hfe : Hid (formB s = (decide (1 ≤ k) && decide (k ≤ 12))) := Lib.hid (by rw [formB_end s (fun j hj => hall.out j hj (by rw [← hn.out]; exact hj)), hn.out])
      go_wp2_with (go_at_call 34; refine (between_any _ _ _ _).mono ?_; rintro e w' ⟨rfl, rfl⟩)
      all_goals
        go_ret
        refine ⟨ret_bool ?_, rfl⟩
        rw [hfe.out]
        unfold within
        grind

end

/- Which patterns may be: desc.size and the reference's pat walked. -/
section
open Go.RowKit

mutual
def patOk : Pat → Bool
  | .mk op nt ks => if op = 0 then isNt nt && ks.isEmpty else isOp op && decide (nt = 0) && decide ((ks.length : Int) = arityOf op) && patsOk ks
def patsOk : List Pat → Bool
  | [] => true
  | p :: ps => patOk p && patsOk ps
end
mutual
def patN : Pat → Nat
  | .mk _ _ ks => 1 + patsN ks
def patsN : List Pat → Nat
  | [] => 0
  | p :: ps => patN p + patsN ps
end
theorem patOk_eq (p : Pat) : patOk p = if p.op = 0 then isNt p.nt && p.kids.isEmpty else isOp p.op && decide (p.nt = 0) && decide ((p.kids.length : Int) = arityOf p.op) && patsOk p.kids := by
  cases p; unfold patOk; rfl
theorem patN_eq (p : Pat) : patN p = 1 + patsN p.kids := by cases p; unfold patN; rfl
theorem patN_pos (p : Pat) : 1 ≤ patN p := by rw [patN_eq]; omega
theorem patsN_append (a b : List Pat) : patsN (a ++ b) = patsN a + patsN b := by
  induction a with
  | nil => simp [patsN]
  | cons p ps ih => simp only [List.cons_append, patsN, ih]; omega
theorem patsN_take (ps : List Pat) (k : Nat) (h : k < ps.length) : patsN (ps.take (k + 1)) = patsN (ps.take k) + patN ps[k] := by
  rw [List.take_succ_eq_append_getElem h, patsN_append]; simp [patsN]
theorem patsN_take_le (ps : List Pat) (k : Nat) : patsN (ps.take k) ≤ patsN ps := by
  have := patsN_append (ps.take k) (ps.drop k)
  rw [List.take_append_drop] at this; omega
theorem patsOk_iff : ∀ ps : List Pat, patsOk ps = true ↔ ∀ j (h : j < ps.length), patOk ps[j] = true
  | [] => by simp [patsOk]
  | p :: ps => by
    unfold patsOk
    rw [Bool.and_eq_true, patsOk_iff ps]
    constructor
    · rintro ⟨h1, h2⟩ j hj
      cases j with
      | zero => exact h1
      | succ j => exact h2 j (by simpa using hj)
    · intro h
      exact ⟨h 0 (by simp), fun j hj => h (j + 1) (by simpa using hj)⟩

def sizeP (p : Pat) (most : Int) : Int := if patOk p = true ∧ (patN p : Int) ≤ most then patN p else -1

theorem below_drewsN {B : Nat} {w w' : World} (h : Below B w w') (n : Nat) : Below B w (w'.drewN n) := h.trans ⟨rfl, rfl, rfl, Nat.le_refl _, fun _ _ => rfl⟩

def SizeOk (p : Pat) : Prop := ∀ (A : Option Addr) (c : Nat) (most : Int) (w : World), PatIn w A c p → -1000 ≤ most → most ≤ 1000 →
  Calls Tryd.prog 98 #[.agg #[.int .i64 p.op, .int .i64 p.nt, .slice A p.kids.length c], .int .i64 most] w fun e w' => e = .returned (.int .i64 (sizeP p most)) ∧ Below w.heap.size w w'

set_option maxRecDepth 100000 in
set_option maxHeartbeats 2000000 in
theorem size_of (p : Pat) (ih : ∀ i (h : i < p.kids.length), SizeOk p.kids[i]) : SizeOk p := by
  intro A c most w hp hm1 hm2
  have hkp := hp.kids
  have hle := hkp.le
  unfold maxLen at hle
  have hok := Lib.hid (patOk_eq p)
  have hN := Lib.hid (patN_eq p)
  have hpos := patN_pos p
  obtain ⟨n, hn⟩ : ∃ n, Hid (p.kids.length = n) := ⟨_, Lib.hid rfl⟩
  obtain ⟨op, hop⟩ : ∃ x, Hid (p.op = x) := ⟨_, Lib.hid rfl⟩
  obtain ⟨nt, hnt⟩ : ∃ x, Hid (p.nt = x) := ⟨_, Lib.hid rfl⟩
  have HK : Hid (PatsIn w A c p.kids) := Lib.hid hkp
  rw [hn.out] at hle
  rw [hn.out, hop.out, hnt.out]
  clear hp hkp
  have hb0 := below_alloc w (.cells #[.int .i64 op, .int .i64 nt, .slice A n c] 31)
  by_cases h0 : most < 1
  · have hs : Hid (sizeP p most = -1) := Lib.hid (by unfold sizeP; rw [if_neg (by omega)])
    rw [hs.out]
    go_enter Tryd.func98, Tryd.ntmps98
    go_wp2_with fail
    go_ret
    exact ⟨ret_int rfl, hb0⟩
  · by_cases hz : op = 0
    · subst hz
      cases h1 : isNt nt
      · have hs : Hid (sizeP p most = -1) := Lib.hid (by unfold sizeP; rw [if_neg]; rw [hok.out, if_pos hop.out, hnt.out, h1]; simp)
        rw [hs.out]
        have c1 := fun W => isNt_any nt W
        rw [h1] at c1
        go_enter Tryd.func98, Tryd.ntmps98
        go_wp2_with (go_at_call 97; refine (c1 _).mono ?_; rintro e w' ⟨rfl, rfl⟩)
        go_ret
        exact ⟨ret_int rfl, hb0⟩
      · have c1 := fun W => isNt_any nt W
        rw [h1] at c1
        by_cases hn0 : 0 < n
        · have hs : Hid (sizeP p most = -1) := Lib.hid (by
            unfold sizeP; rw [if_neg]; rw [hok.out, if_pos hop.out]
            have : p.kids.isEmpty = false := by rw [List.isEmpty_eq_false_iff, ← List.length_pos_iff, hn.out]; exact hn0
            rw [this]; simp)
          rw [hs.out]
          go_enter Tryd.func98, Tryd.ntmps98
          go_wp2_with (go_at_call 97; refine (c1 _).mono ?_; rintro e w' ⟨rfl, rfl⟩)
          go_ret
          exact ⟨ret_int rfl, hb0⟩
        · obtain rfl : n = 0 := by omega
          have hs : Hid (sizeP p most = 1) := Lib.hid (by
            have hk0 : p.kids = [] := List.eq_nil_of_length_eq_zero hn.out
            unfold sizeP
            rw [hN.out, hok.out, if_pos hop.out, hk0, hnt.out, h1, if_pos]
            · simp [patsN]
            · simp [patsN]; omega)
          rw [hs.out]
          go_enter Tryd.func98, Tryd.ntmps98
          go_wp2_with (go_at_call 97; refine (c1 _).mono ?_; rintro e w' ⟨rfl, rfl⟩)
          go_ret
          exact ⟨ret_int rfl, hb0⟩
    · have hze : (op == 0) = false := by simpa using hz
      have c1 := fun W => isOp_any op W
      have c2 := fun W => arity_any op W
      obtain ⟨a, ha⟩ : ∃ a, Hid (arityOf op = a) := ⟨_, Lib.hid rfl⟩
      obtain ⟨o, ho⟩ : ∃ o, Hid (isOp op = o) := ⟨_, Lib.hid rfl⟩
      rw [ho.out] at c1
      rw [ha.out] at c2
      cases o
      · have hs : Hid (sizeP p most = -1) := Lib.hid (by
          unfold sizeP; rw [if_neg]; rw [hok.out, if_neg (by rw [hop.out]; exact hz), hop.out, hnt.out, hn.out]
          rw [ho.out]; simp)
        rw [hs.out]
        go_enter Tryd.func98, Tryd.ntmps98
        go_wp2_with fail
        obtain ⟨w1, hw1⟩ : ∃ w1, w1 = w.alloc (.cells #[.int .i64 op, .int .i64 nt, .slice A n c] 31) := ⟨_, rfl⟩
        rw [← hw1] at hb0
        have r0 : w1.cell? ⟨w.heap.size, 0, none⟩ = some (.int .i64 op) := by rw [hw1]; simp
        have r1 : w1.cell? ⟨w.heap.size, 1, none⟩ = some (.int .i64 nt) := by rw [hw1]; simp
        have r2 : w1.cell? ⟨w.heap.size, 2, none⟩ = some (.slice A n c) := by rw [hw1]; simp
        have hlt1 : w.heap.size < w1.heap.size := by rw [hw1]; simp
        rw [← hw1]
        clear hw1
        go_quiet ((first | (go_at_call 119; exact Calls.quiet_of_same ((c1 _).mono fun _ _ h => ⟨h.1, h.2.symm⟩)) | (go_at_call 120; exact Calls.quiet_of_same ((c2 _).mono fun _ _ h => ⟨h.1, h.2.symm⟩))))
        go_wp2_with fail
        go_ret
        exact ⟨ret_int rfl, below_drewsN hb0 _⟩
      rcases Classical.em (¬ nt = 0) with h2 | h2
      · have h2e : (nt == 0) = false := by simpa using h2
        have hs : Hid (sizeP p most = -1) := Lib.hid (by
          unfold sizeP; rw [if_neg]; rw [hok.out, if_neg (by rw [hop.out]; exact hz), hop.out, hnt.out, hn.out]
          simp [h2])
        rw [hs.out]
        go_enter Tryd.func98, Tryd.ntmps98
        go_wp2_with fail
        obtain ⟨w1, hw1⟩ : ∃ w1, w1 = w.alloc (.cells #[.int .i64 op, .int .i64 nt, .slice A n c] 31) := ⟨_, rfl⟩
        rw [← hw1] at hb0
        have r0 : w1.cell? ⟨w.heap.size, 0, none⟩ = some (.int .i64 op) := by rw [hw1]; simp
        have r1 : w1.cell? ⟨w.heap.size, 1, none⟩ = some (.int .i64 nt) := by rw [hw1]; simp
        have r2 : w1.cell? ⟨w.heap.size, 2, none⟩ = some (.slice A n c) := by rw [hw1]; simp
        have hlt1 : w.heap.size < w1.heap.size := by rw [hw1]; simp
        rw [← hw1]
        clear hw1
        go_quiet ((first | (go_at_call 119; exact Calls.quiet_of_same ((c1 _).mono fun _ _ h => ⟨h.1, h.2.symm⟩)) | (go_at_call 120; exact Calls.quiet_of_same ((c2 _).mono fun _ _ h => ⟨h.1, h.2.symm⟩))))
        go_wp2_with fail
        go_ret
        exact ⟨ret_int rfl, below_drewsN hb0 _⟩
      have h2 : nt = 0 := by omega
      subst h2
      rcases Classical.em (¬ (n : Int) = a) with h3 | h3
      · have h3e : ((n : Int) == a) = false := by simpa using h3
        have hs : Hid (sizeP p most = -1) := Lib.hid (by
          unfold sizeP; rw [if_neg]; rw [hok.out, if_neg (by rw [hop.out]; exact hz), hop.out, hnt.out, hn.out]
          rw [ha.out]; simp [h3])
        rw [hs.out]
        go_enter Tryd.func98, Tryd.ntmps98
        go_wp2_with fail
        obtain ⟨w1, hw1⟩ : ∃ w1, w1 = w.alloc (.cells #[.int .i64 op, .int .i64 0, .slice A n c] 31) := ⟨_, rfl⟩
        rw [← hw1] at hb0
        have r0 : w1.cell? ⟨w.heap.size, 0, none⟩ = some (.int .i64 op) := by rw [hw1]; simp
        have r1 : w1.cell? ⟨w.heap.size, 1, none⟩ = some (.int .i64 0) := by rw [hw1]; simp
        have r2 : w1.cell? ⟨w.heap.size, 2, none⟩ = some (.slice A n c) := by rw [hw1]; simp
        have hlt1 : w.heap.size < w1.heap.size := by rw [hw1]; simp
        rw [← hw1]
        clear hw1
        go_quiet ((first | (go_at_call 119; exact Calls.quiet_of_same ((c1 _).mono fun _ _ h => ⟨h.1, h.2.symm⟩)) | (go_at_call 120; exact Calls.quiet_of_same ((c2 _).mono fun _ _ h => ⟨h.1, h.2.symm⟩))))
        go_wp2_with fail
        go_ret
        exact ⟨ret_int rfl, below_drewsN hb0 _⟩
      · have hokk : Hid (patOk p = patsOk p.kids) := Lib.hid (by rw [hok.out, if_neg (by rw [hop.out]; exact hz), hop.out, hnt.out, hn.out, ho.out, ha.out]; simp at h3; simp [h3])
        have h3 : (n : Int) = a := by omega
        have h3e : ((n : Int) == a) = true := by simpa using h3
        go_enter Tryd.func98, Tryd.ntmps98
        go_wp2_with fail
        obtain ⟨w1, hw1⟩ : ∃ w1, w1 = w.alloc (.cells #[.int .i64 op, .int .i64 0, .slice A n c] 31) := ⟨_, rfl⟩
        rw [← hw1] at hb0
        have r0 : w1.cell? ⟨w.heap.size, 0, none⟩ = some (.int .i64 op) := by rw [hw1]; simp
        have r1 : w1.cell? ⟨w.heap.size, 1, none⟩ = some (.int .i64 0) := by rw [hw1]; simp
        have r2 : w1.cell? ⟨w.heap.size, 2, none⟩ = some (.slice A n c) := by rw [hw1]; simp
        have hlt1 : w.heap.size < w1.heap.size := by rw [hw1]; simp
        rw [← hw1]
        clear hw1
        go_quiet ((first | (go_at_call 119; exact Calls.quiet_of_same ((c1 _).mono fun _ _ h => ⟨h.1, h.2.symm⟩)) | (go_at_call 120; exact Calls.quiet_of_same ((c2 _).mono fun _ _ h => ⟨h.1, h.2.symm⟩))))
        go_wp2_with fail
        go_loopw [5, 45] (fun s i wr => ∃ k m : Nat, k ≤ n ∧ i = .int .i64 k ∧ s = .int .i64 m ∧ 1 ≤ m ∧ (m : Int) ≤ most ∧ Hid (m = 1 + patsN (p.kids.take k)) ∧ Below w.heap.size w wr ∧ Hid (∀ j (h : j < p.kids.length), j < k → patOk p.kids[j] = true)) (fun _ i _ => n - (intOf i).toNat)
        case atStart => exact ⟨0, 1, by omega, rfl, rfl, by omega, by omega, Lib.hid (by simp [patsN]), below_drewsN hb0 _, Lib.hid (fun j _ h => absurd h (by omega))⟩
        case round =>
          obtain ⟨k, m, hk, rfl, rfl, hm0, hmm, hmN, hb, hall⟩ := hrel
          obtain ⟨wo, rfl⟩ : ∃ wo : World, wo = wr := ⟨_, rfl⟩
          clear r0 r1 r2 hlt1 hb0 h3e h3
          by_cases hlt : k < n
          · have hkl : k < p.kids.length := by rw [hn.out]; exact hlt
            obtain ⟨ok, hps⟩ := HK.out.below hb
            obtain ⟨g, off, B, c', rfl, _, hg, ⟨a0, a1, a2⟩, hpi⟩ := pats_at hps k hkl
            have hcall := fun W => ih k hkl B c' (most - m) W
            have htk := Lib.hid (patsN_take p.kids k hkl)
            have hle2 := Lib.hid (patsN_take_le p.kids (k + 1))
            obtain ⟨q, hq⟩ : ∃ q, Hid (p.kids[k] = q) := ⟨_, Lib.hid rfl⟩
            rw [hq.out] at a0 a1 a2 hpi hcall htk
            have HQ : Hid (PatIn wo B c' q) := Lib.hid ⟨_, hpi⟩
            have hbz := hb.size
            clear hps hpi
            by_cases hgood : patOk q = true ∧ (patN q : Int) ≤ most - m
            · have hx : sizeP q (most - m) = patN q := by unfold sizeP; rw [if_pos hgood]
              rw [hx] at hcall
              obtain ⟨x, hxe⟩ : ∃ x, Hid (patN q = x) := ⟨_, Lib.hid rfl⟩
              have hxm : (x : Int) ≤ most - m := by rw [← hxe.out]; exact hgood.2
              have hqo := Lib.hid hgood.1
              rw [hxe.out] at hcall
              clear hx hgood
              go_wp2_with fail
              refine (hcall _ (HQ.out.below (below_alloc _ _)) (by omega) (by omega)).mono ?_
              rintro e w3 ⟨rfl, hb3⟩
              go_wp2_with fail
              go_roundw
              case rel =>
                refine ⟨k + 1, m + x, by omega, by go_num, by go_num, by omega, by omega, Lib.hid (by rw [htk.out, hmN.out, hxe.out]; omega), hb.trans (((below_alloc _ _).mono hbz).trans (hb3.mono (by simp; omega))), Lib.hid (fun j hj hjk => ?_)⟩
                by_cases e : j = k
                · subst e; rw [hq.out]; exact hqo.out
                · exact hall.out j hj (by omega)
              case measure => simp [intOf]; omega
            · have hx : sizeP q (most - m) = -1 := by unfold sizeP; rw [if_neg hgood]
              rw [hx] at hcall
              have hs : Hid (sizeP p most = -1) := Lib.hid (by
                unfold sizeP
                rw [if_neg]
                rintro ⟨h1, h2⟩
                rw [hokk.out, patsOk_iff] at h1
                have h3 := h1 k hkl
                rw [hq.out] at h3
                have h4 := htk.out
                have h5 := hle2.out
                rw [hN.out] at h2
                have h6 := hmN.out
                exact hgood ⟨h3, by omega⟩)
              clear hx hgood
              go_wp2_with fail
              refine (hcall _ (HQ.out.below (below_alloc _ _)) (by omega) (by omega)).mono ?_
              rintro e w3 ⟨rfl, hb3⟩
              go_wp2_with fail
              go_ret
              exact ⟨ret_int hs.out.symm, hb.trans (((below_alloc _ _).mono hbz).trans (hb3.mono (by simp; omega)))⟩
          · obtain rfl : k = n := by omega
            have hs : Hid (sizeP p most = m) := Lib.hid (by
              have h1 : p.kids.take k = p.kids := List.take_of_length_le (by rw [hn.out]; omega)
              have h2 := hmN.out
              rw [h1] at h2
              unfold sizeP
              rw [if_pos, hN.out, h2]
              refine ⟨?_, by rw [hN.out, ← h2]; exact hmm⟩
              rw [hokk.out, patsOk_iff]
              exact fun j hj => hall.out j hj (by rw [← hn.out]; exact hj))
            go_wp2_with fail
            go_ret
            exact ⟨ret_int hs.out.symm, hb⟩

theorem size_any : ∀ p : Pat, SizeOk p
  | .mk op nt kids => size_of _ fun i h => size_any kids[i]
termination_by p => SizeOf.sizeOf p
decreasing_by
  have := List.sizeOf_lt_of_mem (List.getElem_mem h)
  simp only [Pat.kids] at this
  simp only [Pat.mk.sizeOf_spec]
  omega

end

/- Which patterns may be, by the reference: gantletref11.pat walked. -/
section
open Go.RowKit

def fitP (p : Pat) (n : Int) : Bool := patOk p && decide (n + (patN p : Int) ≤ 8)
def FitPost (p : Pat) (n : Int) (b : Bool) (w : World) (e : Ending) (w' : World) : Prop := ∃ m : Int, e = .returned (.tuple #[.int .i64 m, .bool b]) ∧ (b = true → m = n + (patN p : Int)) ∧ Below w.heap.size w w'

def FitOk (p : Pat) : Prop := ∀ (A : Option Addr) (c : Nat) (n : Int) (w : World), PatIn w A c p → 0 ≤ n → n ≤ 8 →
  Calls Tryd.prog 95 #[.agg #[.int .i64 p.op, .int .i64 p.nt, .slice A p.kids.length c], .int .i64 n] w (FitPost p n (fitP p n) w)

theorem arityOf_nonneg (n : Int) : 0 ≤ arityOf n := by unfold arityOf; split; omega; split <;> omega

set_option maxRecDepth 100000 in
set_option maxHeartbeats 2000000 in
theorem fit_of (p : Pat) (ih : ∀ i (h : i < p.kids.length), FitOk p.kids[i]) : FitOk p := by
  intro A c n0 w hp hm1 hm2
  have hkp := hp.kids
  have hle := hkp.le
  unfold maxLen at hle
  have hok := Lib.hid (patOk_eq p)
  have hN := Lib.hid (patN_eq p)
  have hpos := patN_pos p
  obtain ⟨n, hn⟩ : ∃ n, Hid (p.kids.length = n) := ⟨_, Lib.hid rfl⟩
  obtain ⟨op, hop⟩ : ∃ x, Hid (p.op = x) := ⟨_, Lib.hid rfl⟩
  obtain ⟨nt, hnt⟩ : ∃ x, Hid (p.nt = x) := ⟨_, Lib.hid rfl⟩
  obtain ⟨f, hf⟩ : ∃ x, Hid (fitP p n0 = x) := ⟨_, Lib.hid rfl⟩
  have HK : Hid (PatsIn w A c p.kids) := Lib.hid hkp
  rw [hn.out] at hle
  rw [hn.out, hop.out, hnt.out, hf.out]
  clear hp hkp
  have hb0 := below_alloc w (.cells #[.int .i64 op, .int .i64 nt, .slice A n c] 31)
  by_cases h0 : 8 < n0 + 1
  · obtain rfl : f = false := by rw [← hf.out]; unfold fitP; simp; omega
    go_enter Tryd.func95, Tryd.ntmps95
    go_wp2_with fail
    go_ret2
    exact ⟨_, rfl, fun h => Bool.noConfusion h, hb0⟩
  · by_cases hz : op = 0
    · subst hz
      have hok2 : Hid (patOk p = (isNt nt && p.kids.isEmpty)) := Lib.hid (by rw [hok.out, if_pos hop.out, hnt.out])
      by_cases hn0 : 0 < n
      · obtain rfl : f = false := by
          rw [← hf.out]; unfold fitP; rw [hok2.out]
          have : p.kids.isEmpty = false := by rw [List.isEmpty_eq_false_iff, ← List.length_pos_iff, hn.out]; exact hn0
          rw [this]; simp
        have hnz : ((n : Int) == 0) = false := by simp; omega
        go_enter Tryd.func95, Tryd.ntmps95
        go_wp2_with fail
        go_ret2
        exact ⟨_, rfl, fun h => Bool.noConfusion h, hb0⟩
      · obtain rfl : n = 0 := by omega
        have hk0 : p.kids = [] := List.eq_nil_of_length_eq_zero hn.out
        have hN1 : Hid (patN p = 1) := Lib.hid (by rw [hN.out, hk0]; simp [patsN])
        have hfe : Hid (f = isNt nt) := Lib.hid (by
          rw [← hf.out]; unfold fitP; rw [hok2.out, hk0, hN1.out]
          have : decide (n0 + ((1 : Nat) : Int) ≤ 8) = true := by simp; omega
          rw [this]; simp)
        have hw : Hid (within nt 0 3 = isNt nt) := Lib.hid rfl
        go_enter Tryd.func95, Tryd.ntmps95
        go_wp2_with (go_at_call 34; refine (between_any _ _ _ _).mono ?_; rintro e w' ⟨rfl, rfl⟩)
        go_ret2
        exact ⟨n0 + 1, by rw [hfe.out, ← hw.out]; rfl, fun _ => by rw [hN1.out]; rfl, hb0⟩
    · have hze : (op == 0) = false := by simpa using hz
      have c2 := fun W => kidsR_any op W
      obtain ⟨a, ha⟩ : ∃ a, Hid (kidsOf op = a) := ⟨_, Lib.hid rfl⟩
      rw [ha.out] at c2
      have hka : Hid ((n : Int) = a ↔ isOp op = true ∧ (n : Int) = arityOf op) := Lib.hid (by
        rw [← ha.out]; unfold kidsOf
        by_cases h : isOp op = true
        · rw [if_pos h]; simp [h]
        · rw [if_neg h]; simp [h])
      have hok2 : Hid (patOk p = true ↔ nt = 0 ∧ (n : Int) = a ∧ patsOk p.kids = true) := Lib.hid (by
        rw [hok.out, if_neg (by rw [hop.out]; exact hz), hop.out, hnt.out, hn.out, hka.out]
        simp only [Bool.and_eq_true, decide_eq_true_eq]
        constructor
        · rintro ⟨⟨⟨h1, h2⟩, h3⟩, h4⟩; exact ⟨h2, ⟨h1, h3⟩, h4⟩
        · rintro ⟨h2, ⟨h1, h3⟩, h4⟩; exact ⟨⟨⟨h1, h2⟩, h3⟩, h4⟩)
      by_cases h2 : nt = 0
      · subst h2
        by_cases h3 : (n : Int) = a
        · have h3e : ((n : Int) == a) = true := by simpa using h3
          have h3n : ((n : Int) != a) = false := by simp [h3]
          have hokk : Hid (patOk p = true ↔ patsOk p.kids = true) := Lib.hid (by rw [hok2.out]; simp [h3])
          have H3 := Lib.hid h3
          clear h3
          go_enter Tryd.func95, Tryd.ntmps95
          go_wp2_with fail
          obtain ⟨w1, hw1⟩ : ∃ w1, w1 = w.alloc (.cells #[.int .i64 op, .int .i64 0, .slice A n c] 31) := ⟨_, rfl⟩
          rw [← hw1] at hb0
          have r0 : w1.cell? ⟨w.heap.size, 0, none⟩ = some (.int .i64 op) := by rw [hw1]; simp
          have r1 : w1.cell? ⟨w.heap.size, 1, none⟩ = some (.int .i64 0) := by rw [hw1]; simp
          have r2 : w1.cell? ⟨w.heap.size, 2, none⟩ = some (.slice A n c) := by rw [hw1]; simp
          have hlt1 : w.heap.size < w1.heap.size := by rw [hw1]; simp
          rw [← hw1]
          clear hw1
          go_quiet ((go_at_call 104; exact Calls.quiet_of_same ((c2 _).mono fun _ _ h => ⟨h.1, h.2.symm⟩)))
          go_wp2_with fail
          have hbk : w1.cell? ⟨w.heap.size, 2, none⟩ = some (.slice A n c) ∧ w.heap.size < w1.heap.size := ⟨r2, hlt1⟩
          go_loopw [1, 6] (fun s i wr => ∃ k m : Nat, k ≤ n ∧ i = .int .i64 k ∧ s = .int .i64 (n0 + m) ∧ 1 ≤ m ∧ n0 + (m : Int) ≤ 8 ∧ Hid (m = 1 + patsN (p.kids.take k)) ∧ Below w.heap.size w wr ∧ (wr.cell? ⟨w.heap.size, 2, none⟩ = some (.slice A n c) ∧ w.heap.size < wr.heap.size) ∧ Hid (∀ j (h : j < p.kids.length), j < k → patOk p.kids[j] = true)) (fun _ i _ => n - (intOf i).toNat)
          case atStart => exact ⟨0, 1, by omega, rfl, rfl, by omega, by omega, Lib.hid (by simp [patsN]), below_drewsN hb0 _, hbk, Lib.hid (fun j _ h => absurd h (by omega))⟩
          case round =>
            obtain ⟨k, m, hk, rfl, rfl, hm0, hmm, hmN, hb, ⟨hcx, hcz⟩, hall⟩ := hrel
            obtain ⟨wo, rfl⟩ : ∃ wo : World, wo = wr := ⟨_, rfl⟩
            clear r0 r1 r2 hlt1 hb0 h3e h3n hbk
            by_cases hlt : k < n
            · have hkl : k < p.kids.length := by rw [hn.out]; exact hlt
              obtain ⟨ok, hps⟩ := HK.out.below hb
              obtain ⟨g, off, B, c', rfl, _, hg, ⟨a0, a1, a2⟩, hpi⟩ := pats_at hps k hkl
              have hcall := fun W => ih k hkl B c' (n0 + m) W
              have htk := Lib.hid (patsN_take p.kids k hkl)
              have hle2 := Lib.hid (patsN_take_le p.kids (k + 1))
              obtain ⟨q, hq⟩ : ∃ q, Hid (p.kids[k] = q) := ⟨_, Lib.hid rfl⟩
              rw [hq.out] at a0 a1 a2 hpi hcall htk
              have HQ : Hid (PatIn wo B c' q) := Lib.hid ⟨_, hpi⟩
              have hbz := hb.size
              clear hps hpi
              obtain ⟨fq, hfq⟩ : ∃ x, Hid (fitP q (n0 + m) = x) := ⟨_, Lib.hid rfl⟩
              rw [hfq.out] at hcall
              cases fq
              · obtain rfl : f = false := by
                  rw [← hf.out]; unfold fitP
                  have h1 := hfq.out
                  unfold fitP at h1
                  rw [Bool.and_eq_false_iff]
                  by_cases hpo : patOk p = true
                  · right
                    have h2 := (hokk.out.1 hpo)
                    rw [patsOk_iff] at h2
                    have h3 := h2 k hkl
                    rw [hq.out] at h3
                    rw [h3] at h1
                    simp only [Bool.true_and, decide_eq_false_iff_not] at h1
                    rw [decide_eq_false_iff_not, hN.out]
                    have h4 := htk.out
                    have h5 := hle2.out
                    have h6 := hmN.out
                    omega
                  · left; simpa using hpo
                go_wp2_with fail
                refine (hcall _ HQ.out (by omega) (by omega)).mono ?_
                rintro e w3 ⟨m2, rfl, _, hb3⟩
                go_wp2_with fail
                go_ret2
                exact ⟨_, rfl, fun h => Bool.noConfusion h, hb.trans (hb3.mono hbz)⟩
              · have h1 := hfq.out
                unfold fitP at h1
                rw [Bool.and_eq_true, decide_eq_true_eq] at h1
                obtain ⟨hqo, hqm⟩ := h1
                obtain ⟨x, hxe⟩ : ∃ x, Hid (patN q = x) := ⟨_, Lib.hid rfl⟩
                rw [hxe.out] at hqm
                have hqo := Lib.hid hqo
                go_wp2_with fail
                refine (hcall _ HQ.out (by omega) (by omega)).mono ?_
                rintro e w3 ⟨m2, rfl, hm2e, hb3⟩
                obtain rfl : m2 = n0 + m + x := by rw [hm2e rfl, hxe.out]
                clear hm2e hcall
                go_wp2_with fail
                go_roundw
                case rel =>
                  refine ⟨k + 1, m + x, by omega, by go_num, by rw [show n0 + (m : Int) + (x : Int) = n0 + ((m + x : Nat) : Int) by omega], by omega, by omega, Lib.hid (by rw [htk.out, hmN.out, hxe.out]; omega), hb.trans (hb3.mono hbz), ⟨cell_later hb3 hcx, by have := hb3.size; omega⟩, Lib.hid (fun j hj hjk => ?_)⟩
                  by_cases e : j = k
                  · subst e; rw [hq.out]; exact hqo.out
                  · exact hall.out j hj (by omega)
                case measure => simp [intOf]; omega
            · obtain rfl : k = n := by omega
              have hpn : Hid (patN p = m) := Lib.hid (by
                have h1 : p.kids.take k = p.kids := List.take_of_length_le (by rw [hn.out]; omega)
                have h2 := hmN.out
                rw [h1] at h2
                rw [hN.out, h2])
              obtain rfl : f = true := by
                rw [← hf.out]; unfold fitP
                rw [Bool.and_eq_true, hokk.out, patsOk_iff, decide_eq_true_eq, hpn.out]
                exact ⟨fun j hj => hall.out j hj (by rw [← hn.out]; exact hj), hmm⟩
              go_wp2_with fail
              go_ret2
              exact ⟨_, rfl, fun _ => by rw [hpn.out], hb⟩
        · have h3e : ((n : Int) == a) = false := by simpa using h3
          have h3n : ((n : Int) != a) = true := by simp [h3]
          obtain rfl : f = false := by
            rw [← hf.out]; unfold fitP
            rw [Bool.and_eq_false_iff]; left
            rw [← Bool.not_eq_true, hok2.out]; exact fun h => h3 h.2.1
          go_enter Tryd.func95, Tryd.ntmps95
          go_wp2_with fail
          obtain ⟨w1, hw1⟩ : ∃ w1, w1 = w.alloc (.cells #[.int .i64 op, .int .i64 0, .slice A n c] 31) := ⟨_, rfl⟩
          rw [← hw1] at hb0
          have r0 : w1.cell? ⟨w.heap.size, 0, none⟩ = some (.int .i64 op) := by rw [hw1]; simp
          have r1 : w1.cell? ⟨w.heap.size, 1, none⟩ = some (.int .i64 0) := by rw [hw1]; simp
          have r2 : w1.cell? ⟨w.heap.size, 2, none⟩ = some (.slice A n c) := by rw [hw1]; simp
          have hlt1 : w.heap.size < w1.heap.size := by rw [hw1]; simp
          rw [← hw1]
          clear hw1
          go_quiet ((go_at_call 104; exact Calls.quiet_of_same ((c2 _).mono fun _ _ h => ⟨h.1, h.2.symm⟩)))
          go_wp2_with fail
          go_ret2
          exact ⟨_, rfl, fun h => Bool.noConfusion h, below_drewsN hb0 _⟩
      · have h2e : (nt == 0) = false := by simpa using h2
        have h2n : (nt != 0) = true := by simp [h2]
        obtain rfl : f = false := by
          rw [← hf.out]; unfold fitP
          rw [Bool.and_eq_false_iff]; left
          rw [← Bool.not_eq_true, hok2.out]; exact fun h => h2 h.1
        go_enter Tryd.func95, Tryd.ntmps95
        go_wp2_with fail
        obtain ⟨w1, hw1⟩ : ∃ w1, w1 = w.alloc (.cells #[.int .i64 op, .int .i64 nt, .slice A n c] 31) := ⟨_, rfl⟩
        rw [← hw1] at hb0
        have r0 : w1.cell? ⟨w.heap.size, 0, none⟩ = some (.int .i64 op) := by rw [hw1]; simp
        have r1 : w1.cell? ⟨w.heap.size, 1, none⟩ = some (.int .i64 nt) := by rw [hw1]; simp
        have r2 : w1.cell? ⟨w.heap.size, 2, none⟩ = some (.slice A n c) := by rw [hw1]; simp
        have hlt1 : w.heap.size < w1.heap.size := by rw [hw1]; simp
        rw [← hw1]
        clear hw1
        go_quiet ((go_at_call 104; exact Calls.quiet_of_same ((c2 _).mono fun _ _ h => ⟨h.1, h.2.symm⟩)))
        go_wp2_with fail
        go_ret2
        exact ⟨_, rfl, fun h => Bool.noConfusion h, below_drewsN hb0 _⟩

theorem fit_any : ∀ p : Pat, FitOk p
  | .mk op nt kids => fit_of _ fun i h => fit_any kids[i]
termination_by p => SizeOf.sizeOf p
decreasing_by
  have := List.sizeOf_lt_of_mem (List.getElem_mem h)
  simp only [Pat.kids] at this
  simp only [Pat.mk.sizeOf_spec]
  omega

end

end Go.Proofs.YtaippkdlibampaaDoor
