/- What covers weigh. What trees weigh: gantletlaw6.Heavy. (Turned from gantletlaw11.Heavy: gen/gen_heavy6.py.) What questions weigh: gantletlaw13.Heavy; may a tree and rules be: gantletlaw13.may. wakes of gantletlaw13 walked. -/
import Derived.Test.YtaippkdlibampaaDoorKB
namespace Go.Proofs.YtaippkdlibampaaDoor

/- What covers weigh. -/
section
open Go.RowKit

def WeighPostN (top : Int) (N : Nat) (w : World) (e : Ending) (w' : World) : Prop := ∃ n : Int, e = .returned (.int .i64 n) ∧ 0 ≤ n ∧ n ≤ top ∧ (n < 1048576 → n = N) ∧ Below w.heap.size w w'

def CovWOk (p : Cov) : Prop := ∀ (A : Option Addr) (c d : Nat) (w : World), CovIn w A c p → d ≤ 1000 →
  Calls Tryd.prog 66 #[.agg #[.int .i64 p.rule, .slice A p.kids.length c], .int .i64 d] w (fun e w' => WeighPostN (1048576 * (d + 1)) (covN p) w e w' ∧ e ≠ .returned (.int .i64 0))

set_option maxHeartbeats 2000000 in
theorem covW_of (p : Cov) (ih : ∀ i (h : i < p.kids.length), CovWOk p.kids[i]) : CovWOk p := by
  intro A c d w hp hd
  have hkp := hp.kids
  have hle := hkp.le
  unfold maxLen at hle
  obtain ⟨n, hn⟩ : ∃ n, Hid (p.kids.length = n) := ⟨_, Lib.hid rfl⟩
  rw [hn.out] at hle ⊢
  have HK : Hid (CovsIn w A c p.kids) := Lib.hid hkp
  clear hp hkp
  by_cases hd0 : d = 0
  · subst hd0
    go_enter Tryd.func66, Tryd.ntmps66
    go_wp2_with fail
    go_ret
    exact ⟨⟨_, rfl, by omega, by omega, fun h => absurd h (by omega), below_alloc _ _⟩, by simp⟩
  · have hd1 : 1 ≤ d := by omega
    have hde : ((d : Int) == 0) = false := by simp; omega
    go_enter Tryd.func66, Tryd.ntmps66
    go_wp2_with fail
    have hbox : BlkIs (w.alloc (.cells #[.int .i64 p.rule, .slice A n c] 60)) w.heap.size 60 #[.int .i64 p.rule, .slice A n c] := BlkIs.fresh _ _ _
    have hb0 := below_alloc w (.cells #[.int .i64 p.rule, .slice A n c] 60)
    go_loopw [5, 6] (fun s i wr => ∃ (m : Int) (k : Nat), k ≤ n ∧ i = .int .i64 k ∧ s = .int .i64 m ∧ 1 + (k : Int) ≤ m ∧ m ≤ 1048576 * (d + 1) ∧ Below w.heap.size w wr ∧ BlkIs wr w.heap.size 60 #[.int .i64 p.rule, .slice A n c] ∧ Hid (m < 1048576 → m = 1 + covsN (p.kids.take k))) (fun _ i _ => n - (intOf i).toNat)
    case atStart => exact ⟨1, 0, by omega, rfl, rfl, by omega, by omega, hb0, hbox, Lib.hid (fun _ => by simp [covsN])⟩
    case round =>
      obtain ⟨m, k, hk, rfl, rfl, hm1, hm2, hb, hbk, hsm⟩ := hrel
      clear hbox hb0
      obtain ⟨wo, rfl⟩ : ∃ wo : World, wo = wr := ⟨_, rfl⟩
      have hbz := hbk.lt
      have hc2 : wo.cell? ⟨w.heap.size, 1, none⟩ = some (.slice A n c) := hbk.cell 1
      by_cases hlt : k < n
      · by_cases hmm : m < 1048576
        · have hkl : k < p.kids.length := by rw [hn.out]; exact hlt
          obtain ⟨ok, hps⟩ := HK.out.below hb
          obtain ⟨g, off, B, c', rfl, _, hg, ⟨a0, a1⟩, hpi⟩ := covs_at hps k hkl
          have hcall := fun W => ih k hkl B c' (d - 1) W
          obtain ⟨q, hq⟩ : ∃ q, Hid (p.kids[k] = q) := ⟨_, Lib.hid rfl⟩
          rw [hq.out] at a0 a1 hpi hcall
          have e1 : ((d - 1 : Nat) : Int) = (d : Int) - 1 := by omega
          rw [e1] at hcall
          have HP : Hid (CovIn wo B c' q) := Lib.hid ⟨_, hpi⟩
          clear hps hpi e1
          go_wp2_with fail
          refine (hcall _ HP.out (by omega)).mono ?_
          rintro e w3 ⟨⟨m2, rfl, h1, h2, h3, hb3⟩, hne⟩
          have hm3 : 1 ≤ m2 := by
            have : m2 ≠ 0 := fun h => hne (by rw [h])
            omega
          have H3 := Lib.hid h3
          clear h3 hne hcall
          have hd2 : (d : Int) ≤ 1000 := by omega
          go_wp2_with fail
          go_roundw
          case rel =>
            refine ⟨m + m2, k + 1, by omega, by go_num, rfl, by omega, by omega, hb.trans (hb3.mono hb.size), hbk.below hb3 hbz, Lib.hid (fun hlt2 => ?_)⟩
            have e1 := hsm.out hmm
            have e2 := H3.out (by omega)
            have e3 := covsN_take p.kids k hkl
            rw [hq.out] at e3
            omega
          case measure => simp [intOf]; omega
        · go_wp2_with fail
          go_ret
          exact ⟨⟨m, rfl, by omega, by omega, fun h => absurd h (by omega), hb⟩, by simp; omega⟩
      · obtain rfl : k = n := by omega
        go_wp2_with fail
        go_ret
        exact ⟨⟨m, rfl, by omega, by omega, fun h => by rw [covN_eq]; have := hsm.out h; rw [List.take_of_length_le (by rw [hn.out]; omega)] at this; omega, hb⟩, by simp; omega⟩

theorem covW_any : ∀ p : Cov, CovWOk p
  | .mk r kids => covW_of _ fun i h => covW_any kids[i]
termination_by p => SizeOf.sizeOf p
decreasing_by
  have := List.sizeOf_lt_of_mem (List.getElem_mem h)
  simp only [Cov.kids] at this
  simp only [Cov.mk.sizeOf_spec]
  omega

end

/- What trees weigh: gantletlaw6.Heavy. (Turned from gantletlaw11.Heavy: gen/gen_heavy6.py.) -/
section
open Go.RowKit

def TAskWf (T : List Pat) (S : List (List UInt8)) : Prop := T.length ≤ reachBytes ∧ S.length ≤ reachBytes ∧ ∀ s ∈ S, s.length ≤ reachBytes
def HeavyPostT (L : List Pat) (w : World) (e : Ending) (w' : World) : Prop := ∃ b : Bool, e = .returned (.bool b) ∧ (b = false → ∀ t ∈ L, PatSmall t) ∧ Below w.heap.size w w'

set_option maxHeartbeats 2000000 in
theorem heavy6_any (L : List Pat) (S : List (List UInt8)) (A1 A2 : Option Addr) (c1 c2 : Nat) (w : World) (hwf : TAskWf L S)
    (h1 : Rep w (fun _ => True) (.lst 3 (L.map encP)) [.slice A1 L.length c1]) (h2 : Rep w (fun _ => True) (.lst 1 (S.map .str)) [.slice A2 S.length c2]) :
    Calls Tryd.prog 27 #[.agg #[.slice A1 L.length c1, .slice A2 S.length c2]] w (HeavyPostT L w) := by
  obtain ⟨hL, hS, hwS⟩ := hwf
  unfold reachBytes at hL hS
  obtain ⟨n, hn⟩ : ∃ n, Hid (L.length = n) := ⟨_, Lib.hid rfl⟩
  obtain ⟨s, hs⟩ : ∃ s, Hid (S.length = s) := ⟨_, Lib.hid rfl⟩
  rw [hn.out] at hL h1 ⊢
  rw [hs.out] at hS h2 ⊢
  have H1 := Lib.hid h1
  have H2 := Lib.hid h2
  clear h1 h2
  go_enter Tryd.func27, Tryd.ntmps27
  go_wp2_with fail
  have hbox : BlkIs (w.alloc (.cells #[.slice A1 n c1, .slice A2 s c2] 52)) w.heap.size 52 #[.slice A1 n c1, .slice A2 s c2] := BlkIs.fresh _ _ _
  have hb0 := below_alloc w (.cells #[.slice A1 n c1, .slice A2 s c2] 52)
  go_loopw [3, 4] (fun x i wr => ∃ (m : Int) (k : Nat), k ≤ n ∧ i = .int .i64 k ∧ x = .int .i64 m ∧ 0 ≤ m ∧ m ≤ 4000000000000000 ∧ Below w.heap.size w wr ∧ BlkIs wr w.heap.size 52 #[.slice A1 n c1, .slice A2 s c2] ∧ Hid (m < 1048576 → ∀ j (h : j < L.length), j < k → PatSmall L[j])) (fun _ i _ => n - (intOf i).toNat)
  case atStart => exact ⟨s + n, 0, by omega, rfl, rfl, by omega, by omega, hb0, hbox, Lib.hid (fun _ j _ h => absurd h (by omega))⟩
  case round =>
    obtain ⟨m, k, hk, rfl, rfl, hm1, hm2, hb, hbk, hsm⟩ := hrel
    clear hbox hb0
    obtain ⟨wo, rfl⟩ : ∃ wo : World, wo = wr := ⟨_, rfl⟩
    have hbz := hbk.lt
    have hc0 : wo.cell? ⟨w.heap.size, 0, none⟩ = some (.slice A1 n c1) := hbk.cell 0
    have hc1 : wo.cell? ⟨w.heap.size, 1, none⟩ = some (.slice A2 s c2) := hbk.cell 1
    by_cases hlt : k < n ∧ m < 1048576
    · obtain ⟨hlt, hmm⟩ := hlt
      have hkl : k < L.length := by rw [hn.out]; exact hlt
      obtain ⟨g, off, B, d, rfl, _, hg, ⟨a0, a1, a2⟩, hri⟩ := pats_at (H1.out.below hb) k hkl
      have hcall := fun W => treeW_any L[k] B d 300 W
      obtain ⟨rs, hrs⟩ : ∃ rs, Hid (L[k] = rs) := ⟨_, Lib.hid rfl⟩
      rw [hrs.out] at a0 a1 a2 hri hcall
      have HI : Hid (PatIn wo B d rs) := Lib.hid ⟨_, hri⟩
      clear hri
      go_wp2_with fail
      refine (hcall _ HI.out (by omega)).mono ?_
      rintro e w3 ⟨⟨m2, rfl, h1, h2, h3, hb3⟩, _⟩
      have H3 := Lib.hid h3
      clear h3 hcall
      go_wp2_with fail
      go_roundw
      case rel =>
        refine ⟨m + m2, k + 1, by omega, by go_num, rfl, by omega, by omega, hb.trans (hb3.mono hb.size), hbk.below hb3 hbz, Lib.hid (fun hlt2 j hj hjk => ?_)⟩
        by_cases e : j = k
        · subst e; rw [hrs.out]; exact H3.out (by omega)
        · exact hsm.out hmm j hj (by omega)
      case measure => simp [intOf]; omega
    · have hex : Hid (m ≤ 6000 → ∀ rs ∈ L, PatSmall rs) := by
        refine Lib.hid (fun h rs hrs => ?_)
        obtain ⟨j, hj, rfl⟩ := List.getElem_of_mem hrs
        have : ¬ k < n := fun hk => hlt ⟨hk, by omega⟩
        exact hsm.out (by omega) j hj (by rw [hn.out] at hj; omega)
      by_cases hkn : k < n
      · have hmm : ¬ m < 1048576 := fun h => hlt ⟨hkn, h⟩
        clear hlt hsm
        go_wp2_with fail
        go_loop [3, 5] (fun x i => ∃ (m2 : Int) (j : Nat), j ≤ s ∧ i = .int .i64 j ∧ x = .int .i64 m2 ∧ m ≤ m2 ∧ m2 ≤ 4000000000000000) (fun _ i => s - (intOf i).toNat)
        case atStart => exact ⟨m, 0, by omega, rfl, rfl, by omega, by omega⟩
        case round =>
          obtain ⟨m2, j, hj, rfl, rfl, hmm1, hmm2⟩ := hrel
          by_cases hlt2 : j < s ∧ m2 < 1048576
          · exact absurd hlt2.2 (by omega)
          · by_cases hjs : j < s
            · have hms : ¬ m2 < 1048576 := fun h => hlt2 ⟨hjs, h⟩
              clear hlt2
              go_wp2_with fail
              go_ret
              exact ⟨_, rfl, fun h => hex.out (by simp at h; omega), hb⟩
            · clear hlt2
              go_wp2_with fail
              go_ret
              exact ⟨_, rfl, fun h => hex.out (by simp at h; omega), hb⟩
      · clear hlt hsm
        go_wp2_with fail
        go_loop [3, 5] (fun x i => ∃ (m2 : Int) (j : Nat), j ≤ s ∧ i = .int .i64 j ∧ x = .int .i64 m2 ∧ m ≤ m2 ∧ m2 ≤ 4000000000000000) (fun _ i => s - (intOf i).toNat)
        case atStart => exact ⟨m, 0, by omega, rfl, rfl, by omega, by omega⟩
        case round =>
          obtain ⟨m2, j, hj, rfl, rfl, hmm1, hmm2⟩ := hrel
          by_cases hlt2 : j < s ∧ m2 < 1048576
          · obtain ⟨hlt2, hms⟩ := hlt2
            have hjl : j < S.length := by rw [hs.out]; exact hlt2
            obtain ⟨g, off, rfl, _, hg, a0⟩ := strs_at (H2.out.below hb) j hjl
            have hfl := hwS S[j] (List.getElem_mem hjl)
            unfold reachBytes at hfl
            obtain ⟨x, hx⟩ : ∃ x, Hid (S[j] = x) := ⟨_, Lib.hid rfl⟩
            rw [hx.out] at a0 hfl
            obtain ⟨fl, hfl2⟩ : ∃ f, Hid (x.length = f) := ⟨_, Lib.hid rfl⟩
            have hsz : (⟨x.toArray⟩ : ByteArray).size = fl := by rw [← hfl2.out]; simp [ByteArray.size]
            rw [hfl2.out] at hfl
            go_wp2_with fail
            go_round
            case rel => exact ⟨m2 + fl, j + 1, by omega, by go_num, rfl, by omega, by omega⟩
            case measure => simp [intOf]; omega
          · by_cases hjs : j < s
            · have hms : ¬ m2 < 1048576 := fun h => hlt2 ⟨hjs, h⟩
              clear hlt2
              go_wp2_with fail
              go_ret
              exact ⟨_, rfl, fun h => hex.out (by simp at h; omega), hb⟩
            · clear hlt2
              go_wp2_with fail
              go_ret
              exact ⟨_, rfl, fun h => hex.out (by simp at h; omega), hb⟩

end

/- What questions weigh: gantletlaw13.Heavy; may a tree and rules be: gantletlaw13.may. -/
section
open Go.RowKit

def Heavy13Post (L : List (List Rule)) (T : List Pat) (C : List Cov) (w : World) (e : Ending) (w' : World) : Prop := ∃ b : Bool, e = .returned (.bool b) ∧ (b = false → (∀ rs ∈ L, RulesSmall rs) ∧ (∀ t ∈ T, PatSmall t) ∧ covsN C ≤ 3000 ∧ C.length ≤ 3000) ∧ Below w.heap.size w w'

set_option maxRecDepth 100000 in
set_option maxHeartbeats 4000000 in
theorem heavy13_any (L : List (List Rule)) (S : List (List UInt8)) (T : List Pat) (S2 : List (List UInt8)) (C : List Cov) (A1 A2 A3 A4 A5 : Option Addr) (c1 c2 c3 c4 c5 : Nat) (w : World) (hwf : AskWf L S) (hwf2 : TAskWf T S2) (hC : C.length ≤ reachBytes)
    (h1 : Rep w (fun _ => True) (.lst 1 (L.map encRs)) [.slice A1 L.length c1]) (h2 : Rep w (fun _ => True) (.lst 1 (S.map .str)) [.slice A2 S.length c2])
    (h3 : Rep w (fun _ => True) (.lst 3 (T.map encP)) [.slice A3 T.length c3]) (h4 : Rep w (fun _ => True) (.lst 1 (S2.map .str)) [.slice A4 S2.length c4]) (h5 : Rep w (fun _ => True) (.lst 2 (C.map encC)) [.slice A5 C.length c5]) :
    Calls Tryd.prog 29 #[.agg #[.slice A1 L.length c1, .slice A2 S.length c2, .slice A3 T.length c3, .slice A4 S2.length c4, .slice A5 C.length c5]] w (Heavy13Post L T C w) := by
  have hv1 := fun W a b => heavy11_any L S A1 A2 c1 c2 W hwf a b
  have hv2 := fun W a b => heavy6_any T S2 A3 A4 c3 c4 W hwf2 a b
  unfold reachBytes at hC
  obtain ⟨n, hn⟩ : ∃ n, Hid (C.length = n) := ⟨_, Lib.hid rfl⟩
  obtain ⟨ln, hln⟩ : ∃ n, Hid (L.length = n) := ⟨_, Lib.hid rfl⟩
  obtain ⟨sn, hsn⟩ : ∃ n, Hid (S.length = n) := ⟨_, Lib.hid rfl⟩
  obtain ⟨tn, htn⟩ : ∃ n, Hid (T.length = n) := ⟨_, Lib.hid rfl⟩
  obtain ⟨un, hun⟩ : ∃ n, Hid (S2.length = n) := ⟨_, Lib.hid rfl⟩
  rw [hn.out] at hC h5
  rw [hln.out] at h1
  rw [hsn.out] at h2
  rw [htn.out] at h3
  rw [hun.out] at h4
  rw [hln.out, hsn.out] at hv1
  rw [htn.out, hun.out] at hv2
  rw [hn.out, hln.out, hsn.out, htn.out, hun.out]
  have H1 := Lib.hid h1
  have H2 := Lib.hid h2
  have H3 := Lib.hid h3
  have H4 := Lib.hid h4
  have H5 := Lib.hid h5
  clear h1 h2 h3 h4 h5
  go_enter Tryd.func29, Tryd.ntmps29
  go_wp2_with fail
  obtain ⟨Q, hQ⟩ : ∃ x : Array Value, Hid (#[.slice A1 ln c1, .slice A2 sn c2, .slice A3 tn c3, .slice A4 un c4, .slice A5 n c5] = x) := ⟨_, Lib.hid rfl⟩
  have hQ0 : Q[0]? = some (.slice A1 ln c1) := by rw [← hQ.out]; rfl
  have hQ1 : Q[1]? = some (.slice A2 sn c2) := by rw [← hQ.out]; rfl
  have hQ2 : Q[2]? = some (.slice A3 tn c3) := by rw [← hQ.out]; rfl
  have hQ3 : Q[3]? = some (.slice A4 un c4) := by rw [← hQ.out]; rfl
  have hQ4 : Q[4]? = some (.slice A5 n c5) := by rw [← hQ.out]; rfl
  rw [hQ.out]
  have hbox : BlkIs (w.alloc (.cells Q 55)) w.heap.size 55 Q := BlkIs.fresh _ _ _
  have hb0 := below_alloc w (.cells Q 55)
  go_loopw [3, 4] (fun s i wr => ∃ (m : Int) (k : Nat), k ≤ n ∧ i = .int .i64 k ∧ s = .int .i64 m ∧ (n : Int) ≤ m ∧ m ≤ 4000000000000000 ∧ Below w.heap.size w wr ∧ BlkIs wr w.heap.size 55 Q ∧ Hid (m < 1048576 → m = n + covsN (C.take k))) (fun _ i _ => n - (intOf i).toNat)
  case atStart => exact ⟨n, 0, by omega, rfl, rfl, by omega, by omega, hb0, hbox, Lib.hid (fun _ => by simp [covsN])⟩
  case round =>
    obtain ⟨m, k, hk, rfl, rfl, hm1, hm2, hb, hbk, hsm⟩ := hrel
    clear hbox hb0
    obtain ⟨wo, rfl⟩ : ∃ wo : World, wo = wr := ⟨_, rfl⟩
    have hbz := hbk.lt
    have q4 : wo.cell? ⟨w.heap.size, 4, none⟩ = some (.slice A5 n c5) := (hbk.cell 4).trans hQ4
    have hend : ¬ (k < n ∧ m < 1048576) → Hid (m ≤ 3000 → covsN C ≤ 3000 ∧ C.length ≤ 3000) := fun hlt => Lib.hid (fun h => by
      have hkn : ¬ k < n := fun hk => hlt ⟨hk, by omega⟩
      have h1 := hsm.out (by omega)
      rw [List.take_of_length_le (by rw [hn.out]; omega)] at h1
      rw [hn.out]
      omega)
    by_cases hlt : k < n ∧ m < 1048576
    · obtain ⟨hlt, hmm⟩ := hlt
      have hkl : k < C.length := by rw [hn.out]; exact hlt
      obtain ⟨g, off, B, d, rfl, _, hg, ⟨a0, a1⟩, hri⟩ := covs_at (H5.out.below hb) k hkl
      have hcall := fun W => covW_any C[k] B d 300 W
      have htk := Lib.hid (covsN_take C k hkl)
      obtain ⟨c, hc⟩ : ∃ c, Hid (C[k] = c) := ⟨_, Lib.hid rfl⟩
      rw [hc.out] at a0 a1 hri hcall htk
      have HI : Hid (CovIn wo B d c) := Lib.hid ⟨_, hri⟩
      clear hri hend
      go_wp2_with fail
      refine (hcall _ HI.out (by omega)).mono ?_
      rintro e w3 ⟨⟨m2, rfl, h1, h2, h3, hb3⟩, _⟩
      have H3' := Lib.hid h3
      clear h3 hcall
      go_wp2_with fail
      go_roundw
      case rel =>
        refine ⟨m + m2, k + 1, by omega, by go_num, rfl, by omega, by omega, hb.trans (hb3.mono hb.size), hbk.below hb3 hbz, Lib.hid (fun hlt2 => ?_)⟩
        have e1 := hsm.out hmm
        have e2 := H3'.out (by omega)
        have e3 := htk.out
        omega
      case measure => simp [intOf]; omega
    · have HE := hend hlt
      clear hend
      have q0 : wo.cell? ⟨w.heap.size, 0, none⟩ = some (.slice A1 ln c1) := (hbk.cell 0).trans hQ0
      have q1 : wo.cell? ⟨w.heap.size, 1, none⟩ = some (.slice A2 sn c2) := (hbk.cell 1).trans hQ1
      have q2 : wo.cell? ⟨w.heap.size, 2, none⟩ = some (.slice A3 tn c3) := (hbk.cell 2).trans hQ2
      have q3 : wo.cell? ⟨w.heap.size, 3, none⟩ = some (.slice A4 un c4) := (hbk.cell 3).trans hQ3
      have hv1' := hv1 wo (H1.out.below hb) (H2.out.below hb)
      have hv2' := fun W (hW : Below wo.heap.size wo W) => hv2 W ((H3.out.below hb).below hW) ((H4.out.below hb).below hW)
      have hstop : k < n → ¬ m < 1048576 := fun h1 h2 => hlt ⟨h1, h2⟩
      clear hv1 hv2 hlt
      by_cases hm3 : m > 3000
      · have hd3 : decide (m > 3000) = true := by simpa using hm3
        by_cases hkn : k < n
        · have hmm := hstop hkn
          clear hstop
          go_wp2_with fail
          go_ret
          exact ⟨true, rfl, fun h => Bool.noConfusion h, hb⟩
        · clear hstop
          go_wp2_with fail
          go_ret
          exact ⟨true, rfl, fun h => Bool.noConfusion h, hb⟩
      · have hd3 : decide (m > 3000) = false := by simpa using hm3
        have hkn : ¬ k < n := fun h => hstop h (by omega)
        have hC3 := HE.out (by omega)
        clear hstop HE
        go_wp2_with fail
        refine hv1'.mono ?_
        rintro e w4 ⟨b1, rfl, hs1, hb4⟩
        have hbk4 := hbk.below hb4 hbz
        have r2 : w4.cell? ⟨w.heap.size, 2, none⟩ = some (.slice A3 tn c3) := (hbk4.cell 2).trans hQ2
        have r3 : w4.cell? ⟨w.heap.size, 3, none⟩ = some (.slice A4 un c4) := (hbk4.cell 3).trans hQ3
        have hb04 : Below w.heap.size w w4 := hb.trans (hb4.mono hb.size)
        have HS1 := Lib.hid hs1
        clear hs1 hv1' q0 q1 q2 q3 q4
        cases b1
        · have hv2'' := hv2' w4 hb4
          clear hv2'
          go_wp2_with fail
          refine hv2''.mono ?_
          rintro e w5 ⟨b2, rfl, hs2, hb5⟩
          have hb05 : Below w.heap.size w w5 := hb04.trans (hb5.mono hb04.size)
          have HS2 := Lib.hid hs2
          clear hs2 hv2''
          cases b2
          · go_wp2_with fail
            go_ret
            exact ⟨false, rfl, fun _ => ⟨HS1.out (by simp), HS2.out (by simp), hC3⟩, hb05⟩
          · go_wp2_with fail
            go_ret
            exact ⟨true, rfl, fun h => Bool.noConfusion h, hb05⟩
        · clear hv2'
          go_wp2_with fail
          go_ret
          exact ⟨true, rfl, fun h => Bool.noConfusion h, hb04⟩

set_option maxHeartbeats 4000000 in
theorem may13R_any (rs : List Rule) (hwf : RulesWf rs) (t : Pat) (A A2 : Option Addr) (d c2 : Nat) (w : World) (hr : RulesIn w A2 c2 rs) (hp : PatIn w A d t) :
    Calls Tryd.prog 31 #[.slice A2 rs.length c2, .agg #[.int .i64 t.op, .int .i64 t.nt, .slice A t.kids.length d]] w (SomeBoolBelow (mayT t && decide (checkE rs = 0)) w) := by
  have h1 := fun W => checkR_any rs hwf A2 c2 W
  have h2 := fun W => mayTR_any t A d W
  obtain ⟨x, hx⟩ : ∃ x, Hid (checkE rs = x) := ⟨_, Lib.hid rfl⟩
  obtain ⟨b, hb⟩ : ∃ x, Hid (mayT t = x) := ⟨_, Lib.hid rfl⟩
  obtain ⟨rn, hrn⟩ : ∃ n, Hid (rs.length = n) := ⟨_, Lib.hid rfl⟩
  obtain ⟨tn, htn⟩ : ∃ n, Hid (t.kids.length = n) := ⟨_, Lib.hid rfl⟩
  obtain ⟨op, hop⟩ : ∃ x, Hid (t.op = x) := ⟨_, Lib.hid rfl⟩
  obtain ⟨tnt, htnt⟩ : ∃ x, Hid (t.nt = x) := ⟨_, Lib.hid rfl⟩
  rw [hx.out] at h1
  rw [hb.out] at h2
  rw [hrn.out] at h1
  rw [htn.out, hop.out, htnt.out] at h2
  have HR := Lib.hid hr
  have HP := Lib.hid hp
  rw [hrn.out, htn.out, hop.out, htnt.out, hx.out, hb.out]
  clear hr hp
  go_enter Tryd.func31, Tryd.ntmps31
  go_wp2_with fail
  have hb0 := below_alloc w (.cells #[.int .i64 op, .int .i64 tnt, .slice A tn d] 64)
  refine (h2 _ (HP.out.below hb0)).mono ?_
  rintro e w1 ⟨m, rfl, _, hb1⟩
  have hb01 : Below w.heap.size w w1 := hb0.trans (hb1.mono (by simp))
  clear h2
  cases b
  · go_wp2_with fail
    go_ret
    exact ⟨ret_bool (by simp), hb01⟩
  · have h1' := h1 w1 (HR.out.below hb01)
    clear h1
    go_wp2_with fail
    refine h1'.mono ?_
    rintro e w3 ⟨rfl, hb3⟩
    have hb03 : Below w.heap.size w w3 := hb01.trans (hb3.mono hb01.size)
    by_cases hx0 : x = 0
    · have e0 : (x == 0) = true := by simpa using hx0
      go_wp2_with fail
      go_ret
      exact ⟨ret_bool (by simp [hx0]), hb03⟩
    · have e0 : (x == 0) = false := by simpa using hx0
      go_wp2_with fail
      go_ret
      exact ⟨ret_bool (by simp [hx0]), hb03⟩

end

/- wakes of gantletlaw13 walked. -/
section
open Go.RowKit

theorem IsCov.rule_eq {rs : List Rule} {t : Pat} {nt : Nat} {c : Cov} (h : IsCov rs t nt c) : c.rule = (labB rs t).rule nt := by
  cases h with
  | chain _ _ a h m c hr h0 hm hm4 hc => exact hr.symm
  | op _ _ a h cs hr h0 hl ht m hm hc => exact hr.symm

def wakeRs : List Rule := [⟨0, .mk 0 1 [], 1, [108, 105]⟩, ⟨1, .mk 1 0 [], 2, [97, 110, 121]⟩]
def wakeT : Pat := .mk 1 5 []

theorem wake_may : coverMay wakeRs wakeT 0 = true := by
  have h1 : mayRs wakeRs = true := by kernel_rfl
  have h2 : mayT wakeT = true := by kernel_rfl
  have f1 : formOf [108, 105] = some ⟨0, .mk 0 1 [], 0, [108, 105]⟩ := by kernel_rfl
  have f2 : formOf [97, 110, 121] = some ⟨1, .mk 1 0 [], 0, [97, 110, 121]⟩ := by kernel_rfl
  have h3 : checkE wakeRs = 0 := by
    refine checkE_good _ h1 (fun j hj => ?_)
    have hj : j = 0 ∨ j = 1 := by simp [wakeRs] at hj; omega
    rcases hj with rfl | rfl
    · show rightR ⟨0, .mk 0 1 [], 1, [108, 105]⟩ = true
      unfold rightR
      simp only [f1]
      simp [same_iff]
    · show rightR ⟨1, .mk 1 0 [], 2, [97, 110, 121]⟩ = true
      unfold rightR
      simp only [f2]
      simp [same_iff]
  unfold coverMay
  rw [h2, h3]; rfl

theorem wake_lab : (labB wakeRs wakeT).cost 0 = 3 ∧ (labB wakeRs wakeT).rule 0 = 0 ∧ (labB wakeRs wakeT).rule 1 = 1 := by
  refine ⟨by kernel_rfl, by kernel_rfl, by kernel_rfl⟩

theorem wake_cov {n E : Int} {X : Cov} (h : LeastIs wakeRs wakeT 0 n E X) : n = 3 ∧ E = 0 ∧ ∃ c, X = .mk 0 [c] ∧ c.rule = 1 := by
  rcases h with ⟨h1, _⟩ | ⟨_, h1, _⟩ | ⟨_, _, h1, h2, h3⟩
  · rw [wake_may] at h1; cases h1
  · have := wake_lab.1
    rw [show (0 : Int).toNat = 0 from rfl, this] at h1; cases h1
  · rw [show (0 : Int).toNat = 0 from rfl] at h1 h3
    rw [wake_lab.1] at h1
    refine ⟨h1, h2, ?_⟩
    cases h3 with
    | chain _ _ a h m c hr h0 hm hm4 hc =>
      have ha : a = 0 := by have := wake_lab.2.1; rw [hr] at this; omega
      subst ha
      have hm1 : m = 1 := by
        have e : wakeRs[0].pat.nt = 1 := rfl
        rw [e] at hm; omega
      subst hm1
      exact ⟨c, rfl, by rw [hc.rule_eq]; exact wake_lab.2.2⟩
    | op _ _ a h cs hr h0 hl ht m hm hc =>
      have ha : a = 0 := by have := wake_lab.2.1; rw [hr] at this; omega
      subst ha
      exact absurd rfl h0

theorem wake_wf : RulesWf wakeRs := by
  unfold RulesWf wakeRs
  refine ⟨by unfold reachBytes; simp, fun r hr => ?_⟩
  simp only [List.mem_cons, List.mem_nil_iff, or_false] at hr
  rcases hr with rfl | rfl
  all_goals
    unfold RuleWf
    refine ⟨rfl, ?_, rfl, by unfold reachBytes; simp⟩
    unfold PatWf
    exact ⟨rfl, rfl, by first | (simp; done) | (simp [PatsWf]; done) | (unfold reachBytes; simp [PatsWf]; done)⟩

set_option maxRecDepth 100000 in
set_option maxHeartbeats 4000000 in
theorem wakes13_any (w : World) (htab : Tab w) : Calls Tryd.prog 28 #[] w (SomeBoolBelow true w) := by
  go_enter Tryd.func28, Tryd.ntmps28
  go_wp2_with fail
  obtain ⟨w1, hw1⟩ : ∃ w1, w1 = w.alloc (.cells #[.int .i64 0, .int .i64 0, .int .i64 1, .slice none 0 0, .int .i64 1, .string ⟨#[108, 105]⟩, .int .i64 1, .int .i64 1, .int .i64 0, .slice none 0 0, .int .i64 2, .string ⟨#[97, 110, 121]⟩] 33) := ⟨_, rfl⟩
  have hb1 : Below w.heap.size w w1 := by rw [hw1]; exact below_alloc _ _
  have hr : RulesIn w1 (some ⟨w.heap.size, 0, none⟩) 2 wakeRs := by
    refine ⟨fun _ => True, ?_⟩
    unfold Rep
    refine ⟨some ⟨w.heap.size, 0, none⟩, 2, rfl, by simp [wakeRs], by simp [maxLen], fun _ => ⟨w.heap.size, 0, _, _, _, rfl, trivial, by rw [hw1]; exact heap_alloc_new w _, ?_⟩⟩
    have hc : Cells w1 (fun _ => True) 6 (wakeRs.map encR) [.int .i64 0, .int .i64 0, .int .i64 1, .slice none 0 0, .int .i64 1, .string ⟨#[108, 105]⟩, .int .i64 1, .int .i64 1, .int .i64 0, .slice none 0 0, .int .i64 2, .string ⟨#[97, 110, 121]⟩] :=
      ⟨[_, _, _, _, _, _], [_, _, _, _, _, _], rfl, rfl, rep_rule rep_leaf, ⟨[_, _, _, _, _, _], [], rfl, rfl, rep_rule rep_leaf, rfl⟩⟩
    exact Cells.row [] hc
  have hp : PatIn w1 none 0 wakeT := ⟨fun _ => True, rep_leaf⟩
  have hl := least_any wakeRs wake_wf wakeT 0 none (some ⟨w.heap.size, 0, none⟩) 0 2 w1 (tab_alloc htab _ hb1) hr hp
  rw [← hw1]
  clear hw1 hr hp
  refine hl.mono ?_
  rintro e w3 ⟨n, E, X, A3, d3, rfl, hrep, hb3, his⟩
  obtain ⟨rfl, rfl, c, rfl, hcr⟩ := wake_cov his
  have hb03 : Below w.heap.size w w3 := hb1.trans (hb3.mono hb1.size)
  obtain ⟨A', d', he, _, hk⟩ := rep_cov_inv hrep
  injection he with _ he; injection he with he _; injection he with e1 _ e3
  subst e1 e3
  obtain ⟨g, off, B, d, rfl, _, hg, ⟨a0, a1⟩, _⟩ := covs_at (ps := [c]) hk 0 (by simp)
  have a0 : w3.cell? ⟨g, off, none⟩ = some (.int .i64 1) := by
    rw [List.getElem_cons_zero, hcr] at a0
    simpa using a0
  clear hrep hk a1 his hl
  simp only [Cov.rule, Cov.kids, List.length_cons, List.length_nil]
  have hnum : ∀ W : World, Calls Tryd.prog 26 #[.int .i64 0] W fun e w' => e = .returned (.int .i64 0) ∧ W = w' := by
    intro W
    go_enter Tryd.func26, Tryd.ntmps26
    go_wp2_with fail
    go_ret
    exact ⟨rfl, rfl⟩
  go_wp2_with fail
  refine (hnum _).mono ?_
  rintro e w5 ⟨rfl, rfl⟩
  go_wp2_with fail
  go_ret
  exact ⟨ret_bool (by simp), hb03.trans ((below_alloc _ _).mono hb03.size)⟩

end

end Go.Proofs.YtaippkdlibampaaDoor
