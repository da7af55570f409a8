/- The small ones: tree.Size, Pure, Eval, Check; gantletlaw6.num, Heavy. -/
import Derived.Test.YthdicdkgfmiepaaDoorTpD
namespace Go.Proofs.YthdicdkgfmiepaaDoor
open Go.RowKit

def errT (b : Bool) : Int := if b then 0 else 1
def sizeA (p : Pat) : Int := if mayT p then (patN p : Int) else 0
def pureA (p : Pat) : Bool := mayT p && plainT p
def evalA (p : Pat) : Int := if pureA p then valT p else 0

theorem mayT_ok {p : Pat} (h : mayT p = true) : treeOk p = true ∧ patN p ≤ 200 := by
  unfold mayT fitT at h
  rw [Bool.and_eq_true, decide_eq_true_eq] at h
  exact ⟨h.1, by omega⟩

theorem num6_any (n : Int) (w : World) : Calls Tryd.prog 29 #[.int .i64 n] w fun e w' => e = .returned (.int .i64 n) ∧ w = w' := by
  go_enter Tryd.func29, Tryd.ntmps29
  go_wp2
  go_ret
  exact ⟨rfl, rfl⟩

set_option maxHeartbeats 1000000 in
theorem tcheck_any (p : Pat) (A : Option Addr) (c : Nat) (w : World) (hp : PatIn w A c p) :
    Calls Tryd.prog 30 #[.agg #[.int .i64 p.op, .int .i64 p.nt, .slice A p.kids.length c]] w fun e w' => e = .returned (.int .i64 (errT (mayT p))) ∧ Below w.heap.size w w' := by
  have hc := fun W => mayT_any p A c W
  have HP := Lib.hid hp
  clear hp
  have hb0 := below_alloc w (.cells #[.int .i64 p.op, .int .i64 p.nt, .slice A p.kids.length c] 55)
  have hbx : BlkIs (w.alloc (.cells #[.int .i64 p.op, .int .i64 p.nt, .slice A p.kids.length c] 55)) w.heap.size 55 #[.int .i64 p.op, .int .i64 p.nt, .slice A p.kids.length c] := BlkIs.fresh _ _ _
  obtain ⟨b, hb⟩ : ∃ b, Hid (mayT p = b) := ⟨_, Lib.hid rfl⟩
  rw [hb.out] at hc ⊢
  cases b
  all_goals
    go_enter Tryd.func30, Tryd.ntmps30
    go_wp2_with fail
    refine (hc _ (HP.out.below hb0)).mono ?_
    rintro e w1 ⟨rfl, hb1⟩
    go_wp2_with fail
    go_ret
    exact ⟨rfl, hb0.trans (hb1.mono (by simp))⟩

set_option maxHeartbeats 1000000 in
theorem tsize_any (p : Pat) (A : Option Addr) (c : Nat) (w : World) (hp : PatIn w A c p) :
    Calls Tryd.prog 23 #[.agg #[.int .i64 p.op, .int .i64 p.nt, .slice A p.kids.length c]] w fun e w' => e = .returned (.tuple #[.int .i64 (sizeA p), .int .i64 (errT (mayT p))]) ∧ Below w.heap.size w w' := by
  have hc := fun W => mayT_any p A c W
  have hn := fun W => nodes_any p A c W
  have HP := Lib.hid hp
  clear hp
  have hb0 := below_alloc w (.cells #[.int .i64 p.op, .int .i64 p.nt, .slice A p.kids.length c] 55)
  have hbx : BlkIs (w.alloc (.cells #[.int .i64 p.op, .int .i64 p.nt, .slice A p.kids.length c] 55)) w.heap.size 55 #[.int .i64 p.op, .int .i64 p.nt, .slice A p.kids.length c] := BlkIs.fresh _ _ _
  unfold sizeA
  cases hb : mayT p
  · rw [hb] at hc
    clear hb
    go_enter Tryd.func23, Tryd.ntmps23
    go_wp2_with fail
    refine (hc _ (HP.out.below hb0)).mono ?_
    rintro e w1 ⟨rfl, hb1⟩
    go_wp2_with fail
    go_ret2
    exact ⟨rfl, hb0.trans (hb1.mono (by simp))⟩
  · have h2 := (mayT_ok hb).2
    rw [hb] at hc
    clear hb
    obtain ⟨m, hm⟩ : ∃ m, Hid (patN p = m) := ⟨_, Lib.hid rfl⟩
    rw [hm.out] at hn h2 ⊢
    go_enter Tryd.func23, Tryd.ntmps23
    go_wp2_with fail
    refine (hc _ (HP.out.below hb0)).mono ?_
    rintro e w1 ⟨rfl, hb1⟩
    have hb2 := hb0.trans (hb1.mono (by simp))
    have k := hbx.below hb1 hbx.lt
    have k0 : w1.cell? ⟨w.heap.size, 0, none⟩ = some (.int .i64 p.op) := k.cell 0
    have k1 : w1.cell? ⟨w.heap.size, 1, none⟩ = some (.int .i64 p.nt) := k.cell 1
    have k2 : w1.cell? ⟨w.heap.size, 2, none⟩ = some (.slice A p.kids.length c) := k.cell 2
    go_wp2_with fail
    refine (hn _ (HP.out.below hb2) (by omega)).mono ?_
    rintro e w2 ⟨rfl, hb3⟩
    go_wp2_with fail
    go_ret2
    exact ⟨rfl, hb2.trans (hb3.mono hb2.size)⟩

set_option maxHeartbeats 1000000 in
theorem tpure_any (p : Pat) (A : Option Addr) (c : Nat) (w : World) (hp : PatIn w A c p) :
    Calls Tryd.prog 24 #[.agg #[.int .i64 p.op, .int .i64 p.nt, .slice A p.kids.length c]] w fun e w' => e = .returned (.tuple #[.bool (pureA p), .int .i64 (errT (mayT p))]) ∧ Below w.heap.size w w' := by
  have hc := fun W => mayT_any p A c W
  have hn := fun W => plain_any p A c W
  have HP := Lib.hid hp
  clear hp
  have hb0 := below_alloc w (.cells #[.int .i64 p.op, .int .i64 p.nt, .slice A p.kids.length c] 55)
  have hbx : BlkIs (w.alloc (.cells #[.int .i64 p.op, .int .i64 p.nt, .slice A p.kids.length c] 55)) w.heap.size 55 #[.int .i64 p.op, .int .i64 p.nt, .slice A p.kids.length c] := BlkIs.fresh _ _ _
  unfold pureA
  obtain ⟨m, hm⟩ : ∃ m, Hid (plainT p = m) := ⟨_, Lib.hid rfl⟩
  rw [hm.out] at hn ⊢
  cases hb : mayT p
  · rw [hb] at hc
    clear hb
    go_enter Tryd.func24, Tryd.ntmps24
    go_wp2_with fail
    refine (hc _ (HP.out.below hb0)).mono ?_
    rintro e w1 ⟨rfl, hb1⟩
    go_wp2_with fail
    go_ret2
    exact ⟨rfl, hb0.trans (hb1.mono (by simp))⟩
  · rw [hb] at hc
    clear hb
    go_enter Tryd.func24, Tryd.ntmps24
    go_wp2_with fail
    refine (hc _ (HP.out.below hb0)).mono ?_
    rintro e w1 ⟨rfl, hb1⟩
    have hb2 := hb0.trans (hb1.mono (by simp))
    have k := hbx.below hb1 hbx.lt
    have k0 : w1.cell? ⟨w.heap.size, 0, none⟩ = some (.int .i64 p.op) := k.cell 0
    have k1 : w1.cell? ⟨w.heap.size, 1, none⟩ = some (.int .i64 p.nt) := k.cell 1
    have k2 : w1.cell? ⟨w.heap.size, 2, none⟩ = some (.slice A p.kids.length c) := k.cell 2
    go_wp2_with fail
    refine (hn _ (HP.out.below hb2)).mono ?_
    rintro e w2 ⟨rfl, hb3⟩
    go_wp2_with fail
    go_ret2
    exact ⟨rfl, hb2.trans (hb3.mono hb2.size)⟩

set_option maxHeartbeats 1000000 in
theorem teval_any (p : Pat) (A : Option Addr) (c : Nat) (w : World) (hp : PatIn w A c p) (hwf : PatWf p) :
    Calls Tryd.prog 25 #[.agg #[.int .i64 p.op, .int .i64 p.nt, .slice A p.kids.length c]] w fun e w' => e = .returned (.tuple #[.int .i64 (evalA p), .int .i64 (errT (pureA p))]) ∧ Below w.heap.size w w' := by
  have hc := fun W => mayT_any p A c W
  have hn := fun W => plain_any p A c W
  have hv := fun W h => value_any p A c W h hwf
  have HP := Lib.hid hp
  clear hp
  have hb0 := below_alloc w (.cells #[.int .i64 p.op, .int .i64 p.nt, .slice A p.kids.length c] 55)
  have hbx : BlkIs (w.alloc (.cells #[.int .i64 p.op, .int .i64 p.nt, .slice A p.kids.length c] 55)) w.heap.size 55 #[.int .i64 p.op, .int .i64 p.nt, .slice A p.kids.length c] := BlkIs.fresh _ _ _
  unfold evalA pureA
  cases hb : mayT p
  · rw [hb] at hc
    clear hb hv
    go_enter Tryd.func25, Tryd.ntmps25
    go_wp2_with fail
    refine (hc _ (HP.out.below hb0)).mono ?_
    rintro e w1 ⟨rfl, hb1⟩
    go_wp2_with fail
    go_ret2
    exact ⟨rfl, hb0.trans (hb1.mono (by simp))⟩
  · have hok := Lib.hid (mayT_ok hb).1
    rw [hb] at hc
    clear hb
    cases hm : plainT p
    · rw [hm] at hn
      clear hm hv
      go_enter Tryd.func25, Tryd.ntmps25
      go_wp2_with fail
      refine (hc _ (HP.out.below hb0)).mono ?_
      rintro e w1 ⟨rfl, hb1⟩
      have hb2 := hb0.trans (hb1.mono (by simp))
      have k := hbx.below hb1 hbx.lt
      have k0 : w1.cell? ⟨w.heap.size, 0, none⟩ = some (.int .i64 p.op) := k.cell 0
      have k1 : w1.cell? ⟨w.heap.size, 1, none⟩ = some (.int .i64 p.nt) := k.cell 1
      have k2 : w1.cell? ⟨w.heap.size, 2, none⟩ = some (.slice A p.kids.length c) := k.cell 2
      go_wp2_with fail
      refine (hn _ (HP.out.below hb2)).mono ?_
      rintro e w2 ⟨rfl, hb3⟩
      go_wp2_with fail
      go_ret2
      exact ⟨rfl, hb2.trans (hb3.mono hb2.size)⟩
    · have hpl := Lib.hid hm
      rw [hm] at hn
      clear hm
      obtain ⟨x, hx⟩ : ∃ m, Hid (valT p = m) := ⟨_, Lib.hid rfl⟩
      rw [hx.out] at hv ⊢
      go_enter Tryd.func25, Tryd.ntmps25
      go_wp2_with fail
      refine (hc _ (HP.out.below hb0)).mono ?_
      rintro e w1 ⟨rfl, hb1⟩
      have hb2 := hb0.trans (hb1.mono (by simp))
      have k := hbx.below hb1 hbx.lt
      have k0 : w1.cell? ⟨w.heap.size, 0, none⟩ = some (.int .i64 p.op) := k.cell 0
      have k1 : w1.cell? ⟨w.heap.size, 1, none⟩ = some (.int .i64 p.nt) := k.cell 1
      have k2 : w1.cell? ⟨w.heap.size, 2, none⟩ = some (.slice A p.kids.length c) := k.cell 2
      go_wp2_with fail
      refine (hn _ (HP.out.below hb2)).mono ?_
      rintro e w2 ⟨rfl, hb3⟩
      have hb4 := hb2.trans (hb3.mono hb2.size)
      have j := k.below hb3 k.lt
      have j0 : w2.cell? ⟨w.heap.size, 0, none⟩ = some (.int .i64 p.op) := j.cell 0
      have j1 : w2.cell? ⟨w.heap.size, 1, none⟩ = some (.int .i64 p.nt) := j.cell 1
      have j2 : w2.cell? ⟨w.heap.size, 2, none⟩ = some (.slice A p.kids.length c) := j.cell 2
      go_wp2_with fail
      refine (hv _ (HP.out.below hb4) hok.out hpl.out).mono ?_
      rintro e w4 ⟨rfl, hb5⟩
      go_wp2_with fail
      go_ret2
      exact ⟨rfl, hb4.trans (hb5.mono hb4.size)⟩

def TAskWf (T : List Pat) (S : List (List UInt8)) : Prop := T.length ≤ reachBytes ∧ S.length ≤ reachBytes ∧ ∀ s ∈ S, s.length ≤ reachBytes
def HeavyPostT (L : List Pat) (w : World) (e : Ending) (w' : World) : Prop := ∃ b : Bool, e = .returned (.bool b) ∧ (b = false → ∀ t ∈ L, PatSmall t) ∧ Below w.heap.size w w'

set_option maxHeartbeats 2000000 in
theorem heavy6_any (L : List Pat) (S : List (List UInt8)) (A1 A2 : Option Addr) (c1 c2 : Nat) (w : World) (hwf : TAskWf L S)
    (h1 : Rep w (fun _ => True) (.lst 3 (L.map encP)) [.slice A1 L.length c1]) (h2 : Rep w (fun _ => True) (.lst 1 (S.map .str)) [.slice A2 S.length c2]) :
    Calls Tryd.prog 21 #[.agg #[.slice A1 L.length c1, .slice A2 S.length c2]] w (HeavyPostT L w) := by
  obtain ⟨hL, hS, hwS⟩ := hwf
  unfold reachBytes at hL hS
  obtain ⟨n, hn⟩ : ∃ n, Hid (L.length = n) := ⟨_, Lib.hid rfl⟩
  obtain ⟨s, hs⟩ : ∃ s, Hid (S.length = s) := ⟨_, Lib.hid rfl⟩
  rw [hn.out] at hL h1 ⊢
  rw [hs.out] at hS h2 ⊢
  have H1 := Lib.hid h1
  have H2 := Lib.hid h2
  clear h1 h2
  go_enter Tryd.func21, Tryd.ntmps21
  go_wp2_with fail
  have hbox : BlkIs (w.alloc (.cells #[.slice A1 n c1, .slice A2 s c2] 52)) w.heap.size 52 #[.slice A1 n c1, .slice A2 s c2] := BlkIs.fresh _ _ _
  have hb0 := below_alloc w (.cells #[.slice A1 n c1, .slice A2 s c2] 52)
  go_loopw [3, 4] (fun x i wr => ∃ (m : Int) (k : Nat), k ≤ n ∧ i = .int .i64 k ∧ x = .int .i64 m ∧ 0 ≤ m ∧ m ≤ 4000000000000000 ∧ Below w.heap.size w wr ∧ BlkIs wr w.heap.size 52 #[.slice A1 n c1, .slice A2 s c2] ∧ Hid (m < 1048576 → ∀ j (h : j < L.length), j < k → PatSmall L[j])) (fun _ i _ => n - (intOf i).toNat)
  case atStart => exact ⟨s + n, 0, by omega, rfl, rfl, by omega, by omega, hb0, hbox, Lib.hid (fun _ j _ h => absurd h (by omega))⟩
  case round =>
    obtain ⟨m, k, hk, rfl, rfl, hm1, hm2, hb, hbk, hsm⟩ := hrel
    clear hbox hb0
    obtain ⟨wo, rfl⟩ : ∃ wo : World, wo = wr := ⟨_, rfl⟩
    have hbz := hbk.lt
    have hc0 : wo.cell? ⟨w.heap.size, 0, none⟩ = some (.slice A1 n c1) := hbk.cell 0
    have hc1 : wo.cell? ⟨w.heap.size, 1, none⟩ = some (.slice A2 s c2) := hbk.cell 1
    by_cases hlt : k < n ∧ m < 1048576
    · obtain ⟨hlt, hmm⟩ := hlt
      have hkl : k < L.length := by rw [hn.out]; exact hlt
      obtain ⟨g, off, B, d, rfl, _, hg, ⟨a0, a1, a2⟩, hri⟩ := pats_at (H1.out.below hb) k hkl
      have hcall := fun W => treeW_any L[k] B d 300 W
      obtain ⟨rs, hrs⟩ : ∃ rs, Hid (L[k] = rs) := ⟨_, Lib.hid rfl⟩
      rw [hrs.out] at a0 a1 a2 hri hcall
      have HI : Hid (PatIn wo B d rs) := Lib.hid ⟨_, hri⟩
      clear hri
      go_wp2_with fail
      refine (hcall _ HI.out (by omega)).mono ?_
      rintro e w3 ⟨⟨m2, rfl, h1, h2, h3, hb3⟩, _⟩
      have H3 := Lib.hid h3
      clear h3 hcall
      go_wp2_with fail
      go_roundw
      case rel =>
        refine ⟨m + m2, k + 1, by omega, by go_num, rfl, by omega, by omega, hb.trans (hb3.mono hb.size), hbk.below hb3 hbz, Lib.hid (fun hlt2 j hj hjk => ?_)⟩
        by_cases e : j = k
        · subst e; rw [hrs.out]; exact H3.out (by omega)
        · exact hsm.out hmm j hj (by omega)
      case measure => simp [intOf]; omega
    · have hex : Hid (m ≤ 6000 → ∀ rs ∈ L, PatSmall rs) := by
        refine Lib.hid (fun h rs hrs => ?_)
        obtain ⟨j, hj, rfl⟩ := List.getElem_of_mem hrs
        have : ¬ k < n := fun hk => hlt ⟨hk, by omega⟩
        exact hsm.out (by omega) j hj (by rw [hn.out] at hj; omega)
      by_cases hkn : k < n
      · have hmm : ¬ m < 1048576 := fun h => hlt ⟨hkn, h⟩
        clear hlt hsm
        go_wp2_with fail
        go_loop [3, 5] (fun x i => ∃ (m2 : Int) (j : Nat), j ≤ s ∧ i = .int .i64 j ∧ x = .int .i64 m2 ∧ m ≤ m2 ∧ m2 ≤ 4000000000000000) (fun _ i => s - (intOf i).toNat)
        case atStart => exact ⟨m, 0, by omega, rfl, rfl, by omega, by omega⟩
        case round =>
          obtain ⟨m2, j, hj, rfl, rfl, hmm1, hmm2⟩ := hrel
          by_cases hlt2 : j < s ∧ m2 < 1048576
          · exact absurd hlt2.2 (by omega)
          · by_cases hjs : j < s
            · have hms : ¬ m2 < 1048576 := fun h => hlt2 ⟨hjs, h⟩
              clear hlt2
              go_wp2_with fail
              go_ret
              exact ⟨_, rfl, fun h => hex.out (by simp at h; omega), hb⟩
            · clear hlt2
              go_wp2_with fail
              go_ret
              exact ⟨_, rfl, fun h => hex.out (by simp at h; omega), hb⟩
      · clear hlt hsm
        go_wp2_with fail
        go_loop [3, 5] (fun x i => ∃ (m2 : Int) (j : Nat), j ≤ s ∧ i = .int .i64 j ∧ x = .int .i64 m2 ∧ m ≤ m2 ∧ m2 ≤ 4000000000000000) (fun _ i => s - (intOf i).toNat)
        case atStart => exact ⟨m, 0, by omega, rfl, rfl, by omega, by omega⟩
        case round =>
          obtain ⟨m2, j, hj, rfl, rfl, hmm1, hmm2⟩ := hrel
          by_cases hlt2 : j < s ∧ m2 < 1048576
          · obtain ⟨hlt2, hms⟩ := hlt2
            have hjl : j < S.length := by rw [hs.out]; exact hlt2
            obtain ⟨g, off, rfl, _, hg, a0⟩ := strs_at (H2.out.below hb) j hjl
            have hfl := hwS S[j] (List.getElem_mem hjl)
            unfold reachBytes at hfl
            obtain ⟨x, hx⟩ : ∃ x, Hid (S[j] = x) := ⟨_, Lib.hid rfl⟩
            rw [hx.out] at a0 hfl
            obtain ⟨fl, hfl2⟩ : ∃ f, Hid (x.length = f) := ⟨_, Lib.hid rfl⟩
            have hsz : (⟨x.toArray⟩ : ByteArray).size = fl := by rw [← hfl2.out]; simp [ByteArray.size]
            rw [hfl2.out] at hfl
            go_wp2_with fail
            go_round
            case rel => exact ⟨m2 + fl, j + 1, by omega, by go_num, rfl, by omega, by omega⟩
            case measure => simp [intOf]; omega
          · by_cases hjs : j < s
            · have hms : ¬ m2 < 1048576 := fun h => hlt2 ⟨hjs, h⟩
              clear hlt2
              go_wp2_with fail
              go_ret
              exact ⟨_, rfl, fun h => hex.out (by simp at h; omega), hb⟩
            · clear hlt2
              go_wp2_with fail
              go_ret
              exact ⟨_, rfl, fun h => hex.out (by simp at h; omega), hb⟩


end Go.Proofs.YthdicdkgfmiepaaDoor
