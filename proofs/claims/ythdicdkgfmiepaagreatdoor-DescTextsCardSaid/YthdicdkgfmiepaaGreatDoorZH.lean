/- What DescTexts asks besides: how many texts come in; they are copied; numbers of errors. (Printed by gen/gen_dtr.py.) The law's waking example of descriptions. The law DescTexts: its walk. (Printed by gen/gen_dtt.py.) -/
import Derived.Test.YthdicdkgfmiepaaGreatDoorZG
import Derived.Test.YthdicdkgfmiepaaGreatDoorZD
import Derived.Test.YthdicdkgfmiepaaGreatDoorRuP
import Derived.Test.YthdicdkgfmiepaaGreatDoorRuQ
import Derived.Test.YthdicdkgfmiepaaGreatDoorRcA
namespace Go.Proofs.YthdicdkgfmiepaaGreatDoor

/- What DescTexts asks besides: how many texts come in; they are copied; numbers of errors. (Printed by gen/gen_dtr.py.) -/
section
open Go.RowKit

theorem num11_any (n : Int) (w : World) : Calls Tryz.prog 10 #[.int .i64 n] w fun e w' => e = .returned (.int .i64 n) ∧ w = w' := by
  go_enter Tryz.func10, Tryz.ntmps10
  go_wp2
  go_ret
  exact ⟨rfl, rfl⟩

def HeavyPostD (L : List (List Rule)) (n : Nat) (w : World) (e : Ending) (w' : World) : Prop := ∃ b : Bool, e = .returned (.bool b) ∧ (b = false → (∀ rs ∈ L, RulesSmall rs) ∧ n ≤ 8000) ∧ Below w.heap.size w w'

set_option maxHeartbeats 2000000 in
theorem heavy11s_any (L : List (List Rule)) (S : List (List UInt8)) (A1 A2 : Option Addr) (c1 c2 : Nat) (w : World) (hwf : AskWf L S)
    (h1 : Rep w (fun _ => True) (.lst 1 (L.map encRs)) [.slice A1 L.length c1]) (h2 : Rep w (fun _ => True) (.lst 1 (S.map .str)) [.slice A2 S.length c2]) :
    Calls Tryz.prog 4 #[.agg #[.slice A1 L.length c1, .slice A2 S.length c2]] w (HeavyPostD L S.length w) := by
  obtain ⟨hL, hS, hwL, hwS⟩ := hwf
  unfold reachBytes at hL hS
  obtain ⟨n, hn⟩ : ∃ n, Hid (L.length = n) := ⟨_, Lib.hid rfl⟩
  obtain ⟨s, hs⟩ : ∃ s, Hid (S.length = s) := ⟨_, Lib.hid rfl⟩
  rw [hn.out] at hL h1 ⊢
  rw [hs.out] at hS h2 ⊢
  have H1 := Lib.hid h1
  have H2 := Lib.hid h2
  clear h1 h2
  go_enter Tryz.func4, Tryz.ntmps4
  go_wp2_with fail
  have hbox : BlkIs (w.alloc (.cells #[.slice A1 n c1, .slice A2 s c2] 25)) w.heap.size 25 #[.slice A1 n c1, .slice A2 s c2] := BlkIs.fresh _ _ _
  have hb0 := below_alloc w (.cells #[.slice A1 n c1, .slice A2 s c2] 25)
  go_loopw [3, 4] (fun x i wr => ∃ (m : Int) (k : Nat), k ≤ n ∧ i = .int .i64 k ∧ x = .int .i64 m ∧ (s : Int) ≤ m ∧ m ≤ 4000000000000000 ∧ Below w.heap.size w wr ∧ BlkIs wr w.heap.size 25 #[.slice A1 n c1, .slice A2 s c2] ∧ Hid (m < 1048576 → ∀ j (h : j < L.length), j < k → RulesSmall L[j])) (fun _ i _ => n - (intOf i).toNat)
  case atStart => exact ⟨s + n, 0, by omega, rfl, rfl, by omega, by omega, hb0, hbox, Lib.hid (fun _ j _ h => absurd h (by omega))⟩
  case round =>
    obtain ⟨m, k, hk, rfl, rfl, hm1, hm2, hb, hbk, hsm⟩ := hrel
    clear hbox hb0
    obtain ⟨wo, rfl⟩ : ∃ wo : World, wo = wr := ⟨_, rfl⟩
    have hbz := hbk.lt
    have hc0 : wo.cell? ⟨w.heap.size, 0, none⟩ = some (.slice A1 n c1) := hbk.cell 0
    have hc1 : wo.cell? ⟨w.heap.size, 1, none⟩ = some (.slice A2 s c2) := hbk.cell 1
    by_cases hlt : k < n ∧ m < 1048576
    · obtain ⟨hlt, hmm⟩ := hlt
      have hkl : k < L.length := by rw [hn.out]; exact hlt
      obtain ⟨g, off, B, d, rfl, hg, a0, hri⟩ := lists_at (H1.out.below hb) k hkl
      have hcall := fun W => rulesW_any L[k] (fun r hr => ((hwL _ (List.getElem_mem hkl)).2 r hr).2.2.2) (hwL _ (List.getElem_mem hkl)).1 B d W
      obtain ⟨rs, hrs⟩ : ∃ rs, Hid (L[k] = rs) := ⟨_, Lib.hid rfl⟩
      rw [hrs.out] at a0 hri hcall
      have HI := Lib.hid hri
      clear hri
      go_wp2_with fail
      refine (hcall _ HI.out).mono ?_
      rintro e w3 ⟨m2, rfl, h1, h2, h3, hb3⟩
      have H3 := Lib.hid h3
      clear h3 hcall
      go_wp2_with fail
      go_roundw
      case rel =>
        refine ⟨m + m2, k + 1, by omega, by go_num, rfl, by omega, by omega, hb.trans (hb3.mono hb.size), hbk.below hb3 hbz, Lib.hid (fun hlt2 j hj hjk => ?_)⟩
        by_cases e : j = k
        · subst e; rw [hrs.out]; exact H3.out (by omega)
        · exact hsm.out hmm j hj (by omega)
      case measure => simp [intOf]; omega
    · have hex : Hid (m ≤ 8000 → ∀ rs ∈ L, RulesSmall rs) := by
        refine Lib.hid (fun h rs hrs => ?_)
        obtain ⟨j, hj, rfl⟩ := List.getElem_of_mem hrs
        have : ¬ k < n := fun hk => hlt ⟨hk, by omega⟩
        exact hsm.out (by omega) j hj (by rw [hn.out] at hj; omega)
      by_cases hkn : k < n
      · have hmm : ¬ m < 1048576 := fun h => hlt ⟨hkn, h⟩
        clear hlt hsm
        go_wp2_with fail
        go_loop [3, 5] (fun x i => ∃ (m2 : Int) (j : Nat), j ≤ s ∧ i = .int .i64 j ∧ x = .int .i64 m2 ∧ m ≤ m2 ∧ m2 ≤ 4000000000000000) (fun _ i => s - (intOf i).toNat)
        case atStart => exact ⟨m, 0, by omega, rfl, rfl, by omega, by omega⟩
        case round =>
          obtain ⟨m2, j, hj, rfl, rfl, hmm1, hmm2⟩ := hrel
          by_cases hlt2 : j < s ∧ m2 < 1048576
          · exact absurd hlt2.2 (by omega)
          · by_cases hjs : j < s
            · have hms : ¬ m2 < 1048576 := fun h => hlt2 ⟨hjs, h⟩
              clear hlt2
              go_wp2_with fail
              go_ret
              exact ⟨_, rfl, fun h => ⟨hex.out (by simp at h; omega), by simp at h; omega⟩, hb⟩
            · clear hlt2
              go_wp2_with fail
              go_ret
              exact ⟨_, rfl, fun h => ⟨hex.out (by simp at h; omega), by simp at h; omega⟩, hb⟩
      · clear hlt hsm
        go_wp2_with fail
        go_loop [3, 5] (fun x i => ∃ (m2 : Int) (j : Nat), j ≤ s ∧ i = .int .i64 j ∧ x = .int .i64 m2 ∧ m ≤ m2 ∧ m2 ≤ 4000000000000000) (fun _ i => s - (intOf i).toNat)
        case atStart => exact ⟨m, 0, by omega, rfl, rfl, by omega, by omega⟩
        case round =>
          obtain ⟨m2, j, hj, rfl, rfl, hmm1, hmm2⟩ := hrel
          by_cases hlt2 : j < s ∧ m2 < 1048576
          · obtain ⟨hlt2, hms⟩ := hlt2
            have hjl : j < S.length := by rw [hs.out]; exact hlt2
            obtain ⟨g, off, rfl, _, hg, a0⟩ := strs_at (H2.out.below hb) j hjl
            have hfl := hwS S[j] (List.getElem_mem hjl)
            unfold reachBytes at hfl
            obtain ⟨x, hx⟩ : ∃ x, Hid (S[j] = x) := ⟨_, Lib.hid rfl⟩
            rw [hx.out] at a0 hfl
            obtain ⟨fl, hfl2⟩ : ∃ f, Hid (x.length = f) := ⟨_, Lib.hid rfl⟩
            have hsz : (⟨x.toArray⟩ : ByteArray).size = fl := by rw [← hfl2.out]; simp [ByteArray.size]
            rw [hfl2.out] at hfl
            go_wp2_with fail
            go_round
            case rel => exact ⟨m2 + fl, j + 1, by omega, by go_num, rfl, by omega, by omega⟩
            case measure => simp [intOf]; omega
          · by_cases hjs : j < s
            · have hms : ¬ m2 < 1048576 := fun h => hlt2 ⟨hjs, h⟩
              clear hlt2
              go_wp2_with fail
              go_ret
              exact ⟨_, rfl, fun h => ⟨hex.out (by simp at h; omega), by simp at h; omega⟩, hb⟩
            · clear hlt2
              go_wp2_with fail
              go_ret
              exact ⟨_, rfl, fun h => ⟨hex.out (by simp at h; omega), by simp at h; omega⟩, hb⟩

theorem str_info : (Tryz.prog.info? 9).map (fun i => (i.zero, i.size, i.bytes)) = some (some (.string ⟨#[]⟩), 1, 16) := by kernel_rfl

set_option maxHeartbeats 2000000 in
theorem copyStrs_any (S : List (List UInt8)) (hs : S.length ≤ 1000000) (ok : Nat → Prop) (A : Option Addr) (c : Nat) (w : World) (h : Rep w ok (.lst 1 (S.map .str)) [.slice A S.length c]) :
    Calls Tryz.prog 5 #[.slice A S.length c] w (OwnRet 9 1 (S.map .str) w) := by
  obtain ⟨n, hn⟩ : ∃ n, Hid (S.length = n) := ⟨_, Lib.hid rfl⟩
  rw [hn.out] at hs h ⊢
  have HP := Lib.hid h
  clear h
  go_enter Tryz.func5, Tryz.ntmps5
  go_wp2_with fail
  go_loopw [3, 4] (fun v i wr => ∃ k : Nat, k ≤ n ∧ i = .int .i64 k ∧ Own wr w.heap.size (fun g => w.heap.size ≤ g) 9 1 v ((S.take k).map .str) ∧ Below w.heap.size w wr) (fun _ i _ => n - (intOf i).toNat)
  case atStart => exact ⟨0, by omega, rfl, Own.nil _ _ _ _ _, Below.refl _ _⟩
  case round =>
    obtain ⟨k, hk, rfl, hown, hb⟩ := hrel
    obtain ⟨wo, rfl⟩ : ∃ wo : World, wo = wr := ⟨_, rfl⟩
    by_cases hlt : k < n
    · have hkl : k < S.length := by rw [hn.out]; exact hlt
      obtain ⟨g, off, rfl, _, hg, a0⟩ := strs_at (HP.out.below hb) k hkl
      have hts := Lib.hid (take_map D.str S k hkl)
      obtain ⟨q, hq⟩ : ∃ q, Hid (S[k] = q) := ⟨_, Lib.hid rfl⟩
      rw [hq.out] at a0 hts
      have hlen : ((S.take k).map D.str).length ≤ 1000000000 := by simp; omega
      have hbz := hb.size
      go_wp2_with (at_builtin; go_must (refine append_one rfl (.tmp 11) (.tmp 16) 23 9 1 16 _ rfl Tryz.underlying23 str_info rfl (by decide) (by decide) w.heap.size (fun g => w.heap.size ≤ g) _ _ rfl wo.heap.size rfl (hown.alloc _) [.string ⟨q.toArray⟩] (.str q) (BlkIs.fresh _ _ _) rfl (by simp [Value.oneCell']) (by unfold Rep; rfl) hlen (by simp; omega) ?_); intro v2 w2 hown2 hb2 hk2)
      go_roundw
      case rel => exact ⟨k + 1, by omega, by go_num, by rw [hts.out]; exact hown2, (hb.alloc (by omega) _).trans hb2⟩
      case measure => simp [intOf]; omega
    · obtain rfl : k = n := by omega
      go_wp2_with fail
      go_ret
      have h1 : S.take k = S := List.take_of_length_le (by rw [hn.out]; omega)
      rw [h1] at hown
      exact ⟨_, rfl, hown, hb⟩

end

/- The law's waking example of descriptions. -/
section
open Go.RowKit

def wakeT : List UInt8 := [114, 101, 103, 32, 60, 45, 32, 97, 100, 100, 40, 114, 101, 103, 44, 32, 114, 101, 103, 41, 32, 58, 32, 49, 32, 97, 100, 100, 10]
def wakeR : Rule := ⟨0, .mk (opT [97, 100, 100]) 0 [.mk 0 0 [], .mk 0 0 []], 1, [97, 100, 100]⟩
theorem wake_may : mayRs [wakeR] = true := by kernel_rfl
theorem wake_text : (rulesT [wakeR] == wakeT) = true := by kernel_rfl
theorem wake_parse : parseD wakeT = some [wakeR] := (parseD_iff _ _).2 ⟨by decide, wake_may, by simpa using wake_text⟩

set_option maxRecDepth 100000 in
set_option maxHeartbeats 4000000 in
theorem dwakes_any (w : World) (henv : DEnv w) : Calls Tryz.prog 14 #[] w fun e w' => e = .returned (.bool true) ∧ Below w.heap.size w w' := by
  have h := parseD_any wakeT (by decide) w henv
  rw [wake_parse] at h
  unfold ParseRetD at h
  simp only at h
  have hn := fun (x : Int) W => num11_any x W
  unfold wakeT at h
  go_enter Tryz.func14, Tryz.ntmps14
  go_wp2_with fail
  refine h.mono ?_
  rintro e w1 ⟨hb1, A, d, rfl, hrep⟩
  obtain ⟨g, off, B, d2, rfl, _, hg, ⟨a0, a1, a2, a3, a4, a5⟩, _, _⟩ := rules_at hrep 0 (by simp)
  simp only [Nat.zero_mul, Nat.add_zero, List.getElem_cons_zero] at a4 a5
  have b4 : w1.cell? ⟨g, off + 4, none⟩ = some (.int .i64 1) := a4
  have b5 : w1.cell? ⟨g, off + 5, none⟩ = some (.string ⟨#[97, 100, 100]⟩) := a5
  clear a0 a1 a2 a3 a4 a5 hrep h
  simp only [List.length_cons, List.length_nil, Nat.zero_add]
  go_wp2_with (go_at_call 10; refine (hn _ _).mono ?_; rintro e w9 ⟨rfl, rfl⟩)
  go_ret
  exact ⟨rfl, hb1⟩

end

/- The law DescTexts: its walk. (Printed by gen/gen_dtt.py.) -/
section
open Go.RowKit

/-- append_one that tells where the new row lies -/
theorem append_two {P : Program} {ops : Array Oper} {rest : List Oper} {o : Oper} {a : Act} {Q : Exit → Act → World → Prop} {w : World} (hgd : o.guard = none) (s x : Operand) (T e : TypeId) (z bytes : Nat) (zero : Value)
    (ho : o.op = .call { callee := .builtin .append, args := #[s, x], argTypes := #[T, T] })
    (hT : P.underlying T = some (.slice e)) (hi : (P.info? e).map (fun i => (i.zero, i.size, i.bytes)) = some (some zero, z, bytes)) (hzs : zero.cells.size = z) (hsz : 0 < z) (hb : bytes ≤ 1000)
    (B : Nat) (ok : Nat → Prop) (v : Value) (ds : List D) (hs : a.eval s = v) (g : Nat) (hx : a.eval x = .slice (some ⟨g, 0, none⟩) 1 1)
    (hown : Own w B ok e z v ds) (cs : List Value) (d : D) (hnew : BlkIs w g e cs.toArray) (hl : cs.length = z) (h1 : ∀ u ∈ cs, u.oneCell' = true)
    (hd : Rep w (fun k => ok k ∧ some k ≠ v.ownBlock) d cs) (hlen : ds.length ≤ 1000000000) (hB : B ≤ w.heap.size)
    (h : ∀ v' w', Own w' B ok e z v' (ds ++ [d]) → Below B w w' → (∀ k, some k ≠ v.ownBlock → k < w.heap.size → w'.heap[k]? = w.heap[k]?) → (v'.ownBlock = v.ownBlock ∨ ∃ g, v'.ownBlock = some g ∧ w.heap.size ≤ g) → wpList P ops Q rest (a.put o.dst v') w') :
    wpList P ops Q (o :: rest) a w := by
  obtain ⟨i0, hi0, hz0, hz1, hz2⟩ := info_parts hi
  obtain ⟨xs, hrow, hcells⟩ := hown
  have hmul : (ds.length + 1) * bytes ≤ 140737488355328 := by
    have := Nat.mul_le_mul (show ds.length + 1 ≤ 1000000001 by omega) hb
    omega
  obtain ⟨v', w', hrun, h2, h3, _, h5⟩ := run_append_own_at (P := P) w B T o.type e i0 zero z bytes hT hi0 hz0 hz1 hz2 hzs hsz v ds.length xs hrow ⟨g, 0, none⟩ 1 1 cs (by rw [hl]; omega) (hnew.cells (by simp)) h1 (by unfold maxLen; omega) hmul hB
  refine wpList_plain hgd fun _ hK => ?_
  unfold Oper.wp execOp
  simp only [ho, resolve, invoke, builtin, Sem.run_bind, Sem.run_pure, Result.andThen_ok, List.map_toArray, List.map_cons, List.map_nil, hs, hx, hrun]
  have hkeep : ∀ k, some k ≠ v.ownBlock → k < w.heap.size → w'.heap[k]? = w.heap[k]? := fun k hk hlt => h3.block k hlt hk
  have hok : ∀ k, ok k ∧ some k ≠ v.ownBlock → k < w.heap.size → ok k ∧ some k ≠ v'.ownBlock := by
    intro k hk hlt
    refine ⟨hk.1, ?_⟩
    rcases h5 with h5 | h5
    · rw [h5]; exact hk.2
    · rw [h5]; intro e; injection e with e; omega
  refine hK _ _ (h v' w' ⟨xs ++ cs, by rw [List.length_append]; exact h2, ?_⟩ ((Below.refl _ _).grown h3 hB (own_block_ge hrow)) (fun k hk hlt => h3.block k hlt hk) ?_)
  · exact Cells.snoc hl (Rep.keep hok (fun k hk => hkeep k hk.2) d cs hd) (Cells.keep hok (fun k hk => hkeep k hk.2) hcells)
  · rcases h5 with h5 | h5
    · exact .inl h5
    · exact .inr ⟨_, h5, by omega⟩

theorem dcells3 {w : World} {ok : Nat → Prop} (a b c : List UInt8) : Cells w ok 1 ([a, b, c].map D.str) [.string ⟨a.toArray⟩, .string ⟨b.toArray⟩, .string ⟨c.toArray⟩] :=
  ⟨[_], [_, _], rfl, rfl, by unfold Rep; rfl, [_], [_], rfl, rfl, by unfold Rep; rfl, [_], [], rfl, rfl, by unfold Rep; rfl, rfl⟩

theorem lineT_len {r : Rule} (h : RuleTxt r) : (lineT r).length ≤ 10000 := by
  obtain ⟨h1, h2, h3, h4, h5, h6, h7⟩ := h
  have e1 := ntWord_le r.nt.toNat
  have e2 := patText_len r.pat
  have e3 : (decT r.cost).length ≤ 5 := by
    unfold decT
    rw [if_neg (by omega)]
    have := digs_len 5 r.cost.natAbs (by omega) (by omega)
    simpa using this
  unfold lineT
  simp only [List.length_append, List.length_cons, List.length_nil]
  omega
theorem rulesT_len : ∀ l : List Rule, (∀ r ∈ l, RuleTxt r) → (rulesT l).length ≤ 10000 * l.length
  | [], _ => by simp [rulesT]
  | r :: l, h => by
    have h1 := lineT_len (h r (by simp))
    have h2 := rulesT_len l (fun q hq => h q (by simp [hq]))
    rw [rulesT, List.length_append, List.length_cons]
    omega

set_option maxRecDepth 100000 in
set_option maxHeartbeats 8000000 in
theorem descTexts_any (L : List (List Rule)) (S : List (List UInt8)) (A1' A2' : Option Addr) (c1 c2' : Nat) (w : World) (hwf : AskWf L S)
    (h1 : Rep w (fun _ => True) (.lst 1 (L.map encRs)) [.slice A1' L.length c1]) (h2 : Rep w (fun _ => True) (.lst 1 (S.map .str)) [.slice A2' S.length c2']) (ht : DEnv w) :
    Calls Tryz.prog 3 #[.agg #[.slice A1' L.length c1, .slice A2' S.length c2']] w fun e w' => e = .returned (.bool true) ∧ Below w.heap.size w w' := by
  have hhv := fun W h1 h2 => heavy11s_any L S A1' A2' c1 c2' W hwf h1 h2
  obtain ⟨hL, hS, hLw, hSl⟩ := hwf
  unfold reachBytes at hL hS hSl
  have HSL : Hid (∀ s ∈ S, s.length ≤ 140737488355327) := Lib.hid (fun s hs => by have := hSl s hs; omega)
  have HLW := Lib.hid hLw
  have hcp := fun hs W h => copyStrs_any S hs (fun _ => True) A2' c2' W h
  clear hSl hLw
  obtain ⟨n, hn⟩ : ∃ n, Hid (L.length = n) := ⟨_, Lib.hid rfl⟩
  obtain ⟨sn, hsn⟩ : ∃ s, Hid (S.length = s) := ⟨_, Lib.hid rfl⟩
  rw [hn.out] at hL h1 hhv ⊢
  rw [hsn.out] at hS h2 hhv hcp ⊢
  have H1 := Lib.hid h1
  have H2 := Lib.hid h2
  have HT : Hid (∀ W, Below w.heap.size w W → DEnv W) := Lib.hid (fun W h => ht.below h)
  clear h1 h2 ht
  have hb0 := below_alloc w (.cells #[.slice A1' n c1, .slice A2' sn c2'] 25)
  have hbox : BlkIs (w.alloc (.cells #[.slice A1' n c1, .slice A2' sn c2'] 25)) w.heap.size 25 #[.slice A1' n c1, .slice A2' sn c2'] := BlkIs.fresh _ _ _
  have cn := fun (x : Int) W => num11_any x W
  go_enter Tryz.func3, Tryz.ntmps3
  go_wp2_with fail
  refine (hhv _ (H1.out.below hb0) (H2.out.below hb0)).mono ?_
  rintro e wh ⟨b, rfl, hsm, hbh⟩
  have hbw := hb0.trans (hbh.mono (by simp))
  have hbx2 := hbox.below hbh hbox.lt
  have hszh := hbx2.lt
  clear hhv hbox
  cases b
  case true =>
    go_wp2_with fail
    go_ret
    exact ⟨rfl, hbw⟩
  case false =>
    have hsn6 := (hsm rfl).2
    have HSM := Lib.hid (hsm rfl).1
    clear hsm
    have hq1 : wh.cell? ⟨w.heap.size, 1, none⟩ = some (.slice A2' sn c2') := hbx2.cell 1
    go_wp2_with fail
    refine (hcp (by omega) wh (H2.out.below hbw)).mono ?_
    rintro e wc ⟨v, rfl, hown, hbc⟩
    have hbw2 := hbw.trans (hbc.mono hbw.size)
    have hbx3 := hbx2.below hbc hbx2.lt
    have HO0 : Hid (Own wc (w.heap.size + 1) (fun g => w.heap.size + 1 ≤ g) 9 1 v (S.map .str)) := Lib.hid ((hown.base (by omega)).imp (fun g hg _ => by omega))
    clear hown hcp hq1 hbx2 hbw hbh hbc
    go_wp2_with fail
    go_loopw [3, 4] (fun v i wr => ∃ (k : Nat) (X : List (List UInt8)), k ≤ n ∧ i = .int .i64 k ∧ Hid (Own wr (w.heap.size + 1) (fun g => w.heap.size + 1 ≤ g) 9 1 v (X.map .str)) ∧ Hid (∀ s ∈ X, s.length ≤ 140737488355327) ∧ X.length ≤ sn + 4 * k ∧ k ≤ 6 ∧ Below w.heap.size w wr ∧ BlkIs wr w.heap.size 25 #[.slice A1' n c1, .slice A2' sn c2']) (fun _ i _ => n - (intOf i).toNat)
    case atStart => exact ⟨0, S, by omega, rfl, HO0, HSL, by rw [hsn.out]; omega, by omega, hbw2, hbx3⟩
    case round =>
      obtain ⟨k, X, hk, rfl, HO, HX, hXl, hk6, hb, hbk⟩ := hrel
      obtain ⟨wo, rfl⟩ : ∃ wo : World, wo = wr := ⟨_, rfl⟩
      clear hbx3 hbw2 HO0
      have hbz0 := hbk.lt
      have hc0 : wo.cell? ⟨w.heap.size, 0, none⟩ = some (.slice A1' n c1) := hbk.cell 0
      by_cases hlt : k < n ∧ k < 6
      · obtain ⟨hlt, hk6⟩ := hlt
        have hkl : k < L.length := by rw [hn.out]; exact hlt
        obtain ⟨g, off, B, d, rfl, hg, A0, hri⟩ := lists_at H1.out k hkl
        have hrw := HLW.out _ (List.getElem_mem hkl)
        have hrs := HSM.out _ (List.getElem_mem hkl)
        obtain ⟨q, hq⟩ : ∃ q, Hid (L[k] = q) := ⟨_, Lib.hid rfl⟩
        rw [hq.out] at A0 hri hrw hrs
        have HL := Lib.hid hri
        have f0 := fun W h => copyRules_any q hrs B d W h
        have f1 := fun A c W h he => textD_any q hrw A c W h he
        have f2 := fun W h => mayR_any q hrw B d W h
        have f4 := fun A c W h h2 => eqRules_self q A B c d W h h2
        unfold TextRetD at f1
        obtain ⟨m, hm⟩ : ∃ m, Hid (q.length = m) := ⟨_, Lib.hid rfl⟩
        rw [hm.out] at A0 f0 f1 f2 f4
        clear hri hrw hrs
        have q0 : wo.cell? ⟨w.heap.size, 0, none⟩ = some (.slice (some ⟨g, off, none⟩) n c1) := hbk.cell 0
        have a0 := (hb.cell (p := ⟨g, off + k, none⟩) hg).trans A0
        have hlg : g < wo.heap.size := by have := hb.size; omega
        go_wp2_with fail
        refine (f0 _ (HL.out.below hb)).mono ?_
        rintro e w1 ⟨v5, rfl, own5, hb1⟩
        obtain ⟨A5, c5, rfl, _⟩ := own5.rep.len
        rw [List.length_map, hm.out]
        have HR5 : Hid (RulesIn w1 A5 c5 q) := Lib.hid (by have h := own5.rep; rw [List.length_map] at h; exact ⟨_, h⟩)
        have HRr : Hid (Rep w1 (fun g => wo.heap.size ≤ g) (.lst 6 (q.map encR)) [.slice A5 q.length c5]) := Lib.hid (by have h := own5.rep; rw [List.length_map] at h; exact h.imp (fun _ hq _ => by rcases hq with h | h <;> exact h))
        have hB1 := hb.trans (hb1.mono hb.size)
        clear own5 q0 a0 hlg f0
        go_wp2_with fail
        refine (f1 A5 c5 _ HR5.out (HT.out _ hB1)).mono ?_
        rintro e w2 ⟨rfl, hb2⟩
        have hbs := hb1.trans (hb2.mono hb1.size)
        have hB2 := hb.trans (hbs.mono hb.size)
        have hK2 := hbk.below hbs hbz0
        have HR6 := Lib.hid (HR5.out.below hb2)
        clear f1 HR5
        have q0 : w2.cell? ⟨w.heap.size, 0, none⟩ = some (.slice (some ⟨g, off, none⟩) n c1) := hK2.cell 0
        have a0 := (hB2.cell (p := ⟨g, off + k, none⟩) hg).trans A0
        have hlg : g < w2.heap.size := by have := hB2.size; omega
        cases hmay : mayRs q
        · rw [hmay] at f2
          rw [if_neg (by decide)]
          clear hmay
          go_wp2_with fail
          refine (f2 _ (HL.out.below hB2)).mono ?_
          rintro e w3 ⟨rfl, hb3⟩
          have hB3 := hB2.trans (hb3.mono hB2.size)
          have hK3 := hK2.below hb3 hK2.lt
          have HR7 := Lib.hid (HR6.out.below hb3)
          have HO3 := Lib.hid ((HO.out.below hbs).below hb3)
          clear q0 a0 hlg
          have q0 : w3.cell? ⟨w.heap.size, 0, none⟩ = some (.slice (some ⟨g, off, none⟩) n c1) := hK3.cell 0
          have a0 := (hB3.cell (p := ⟨g, off + k, none⟩) hg).trans A0
          have hlg : g < w3.heap.size := by have := hB3.size; omega
          go_wp2_with (go_at_call 10; refine (cn _ _).mono ?_; rintro e w9 ⟨rfl, rfl⟩)
          refine (f4 A5 c5 _ HR7.out (HL.out.below hB3)).mono ?_
          rintro e w4 ⟨rfl, hb4⟩
          go_wp2_with fail
          go_roundw
          case rel => exact ⟨k + 1, X, by omega, by go_num, Lib.hid (HO3.out.below hb4), HX, by omega, by omega, hB3.trans (hb4.mono hB3.size), hK3.below hb4 hK3.lt⟩
          case measure => simp [intOf]; omega
        · have hl96 : m ≤ 96 := by rw [← hm.out]; exact (may_parts hmay).2
          have htxt := ruleTxtD hmay
          have htl := rulesT_len q htxt
          rw [hm.out] at htl
          have f3 := fun W h => textR_any q htxt (by rw [hm.out]; exact hl96) B d W h
          rw [hm.out] at f3
          rw [hmay] at f2
          rw [if_pos rfl]
          clear hmay htxt
          obtain ⟨tq, htq⟩ : ∃ x, Hid (rulesT q = x) := ⟨_, Lib.hid rfl⟩
          rw [htq.out] at htl f3 ⊢
          go_wp2_with fail
          refine (f2 _ (HL.out.below hB2)).mono ?_
          rintro e w3 ⟨rfl, hb3⟩
          have hB3 := hB2.trans (hb3.mono hB2.size)
          have hK3 := hK2.below hb3 hK2.lt
          clear q0 a0 hlg
          have q0 : w3.cell? ⟨w.heap.size, 0, none⟩ = some (.slice (some ⟨g, off, none⟩) n c1) := hK3.cell 0
          have a0 := (hB3.cell (p := ⟨g, off + k, none⟩) hg).trans A0
          have hlg : g < w3.heap.size := by have := hB3.size; omega
          go_wp2_with fail
          refine (f3 _ (HL.out.below hB3)).mono ?_
          rintro e w4 ⟨rfl, hb4⟩
          have hB4 := hB3.trans (hb4.mono hB3.size)
          have hK4 := hK3.below hb4 hK3.lt
          have HR7 := Lib.hid ((HR6.out.below hb3).below hb4)
          have HO4 := Lib.hid (((HO.out.below hbs).below hb3).below hb4)
          clear HR6 f2 f3
          obtain ⟨t1, ht1⟩ : ∃ x, Hid (tq ++ [120] = x) := ⟨_, Lib.hid rfl⟩
          obtain ⟨t3, ht3⟩ : ∃ x, Hid ([32] ++ tq = x) := ⟨_, Lib.hid rfl⟩
          have p1 := fun W => add_str tq [120] t1 ht1.out (by simp; omega) W
          have p3 := fun W => add_str [32] tq t3 ht3.out (by simp; omega) W
          have l1 : t1.length ≤ 960001 := by rw [← ht1.out]; simp; omega
          have l3 : t3.length ≤ 960001 := by rw [← ht3.out]; simp; omega
          clear q0 a0 hlg
          have HRe : Hid (Rep w4 (fun g => wo.heap.size ≤ g ∧ g < w4.heap.size) (.lst 6 (q.map encR)) [.slice A5 q.length c5]) := Lib.hid ((((HRr.out.below hb2).below hb3).below hb4).lt.imp (fun g h _ => h))
          have hne := fun (g : Nat) (hg : wo.heap.size ≤ g) => HO.out.ne_far hg
          clear HRr
          by_cases h0 : tq.length = 0
          · have hsz : (⟨tq.toArray⟩ : ByteArray).size = 0 := by simpa [ByteArray.size] using h0
            go_upto_region 14 with fail
            have hfr : Own (w4.alloc (.cells #[.string ⟨tq.toArray⟩, .string ⟨t1.toArray⟩, .string ⟨t3.toArray⟩] 9)) (w4.heap.size) (fun g => w4.heap.size ≤ g) 9 1 (.slice (some ⟨w4.heap.size, 0, none⟩) 3 3) ([tq, t1, t3].map D.str) := Own.fresh (dcells3 tq t1 t3) (Nat.le_refl _) (by simp [maxLen]) rfl rfl
            have hXm : ((X).map D.str).length + ([tq, t1, t3].map D.str).length ≤ 1000000000 := by simp; omega
            have HFR := Lib.hid hfr
            have hszw := hB4.size
            have hszk := hK4.lt
            clear hfr
            go_wp2_with (first | (at_builtin; go_must (refine append_all rfl (.tmp 65) (.tmp 71) 23 9 1 16 _ rfl Tryz.underlying23 str_info rfl (by decide) (by decide) (w.heap.size + 1) (fun g => w.heap.size + 1 ≤ g) _ _ rfl _ rfl (HO4.out.alloc _) w4.heap.size (fun g => w4.heap.size ≤ g) ([tq, t1, t3].map D.str) HFR.out (fun q hq => ⟨by omega, HO4.out.ne_far hq⟩) hXm (by simp; omega) ?_); intro v8 w8 hown8 hb8 hk8; have hB8 : Below w.heap.size w w8 := (hB4.alloc hB4.size _).trans (hb8.mono (by omega)); have hK8 := (hK4.alloc (.cells #[.string ⟨tq.toArray⟩, .string ⟨t1.toArray⟩, .string ⟨t3.toArray⟩] 9)).below hb8 (by omega); have HR8 : Hid (RulesIn w8 A5 c5 q) := Lib.hid ⟨fun _ => True, Rep.keep (ok' := fun _ => True) (fun _ _ _ => trivial) (fun g hg hl => hk8 g ((fun g hg _ => hne g hg) g hg.1 hg.2) hl) _ _ (HRe.out.alloc (.cells #[.string ⟨tq.toArray⟩, .string ⟨t1.toArray⟩, .string ⟨t3.toArray⟩] 9))⟩; have q0 : w8.cell? ⟨w.heap.size, 0, none⟩ = some (.slice (some ⟨g, off, none⟩) n c1) := hK8.cell 0; have a0 := (hB8.cell (p := ⟨g, off + k, none⟩) hg).trans A0; have hlg : g < w8.heap.size := (by have := hB8.size; omega)) | (go_at_call 10; refine (cn _ _).mono ?_; rintro e w9 ⟨rfl, rfl⟩))
            refine (f4 A5 c5 _ HR8.out (HL.out.below hB8)).mono ?_
            rintro e w9 ⟨rfl, hb9⟩
            go_wp2_with fail
            go_roundw
            case rel => exact ⟨k + 1, X ++ [tq, t1, t3], by omega, by go_num, Lib.hid (by have h := hown8.below hb9; simpa using h), Lib.hid (by
              intro s hs
              simp only [List.mem_append, List.mem_cons, List.not_mem_nil, or_false] at hs
              have hXs := HX.out s
              rcases hs with hs | rfl | rfl | rfl
              · exact hXs hs
              · omega
              · omega
              · omega), by simp; omega, by omega, hB8.trans (hb9.mono hB8.size), hK8.below hb9 hK8.lt⟩
            case measure => simp [intOf]; omega
          · obtain ⟨tm, htm⟩ : ∃ tm, tq.length = tm + 1 := ⟨tq.length - 1, by omega⟩
            have hsz : (⟨tq.toArray⟩ : ByteArray).size = tm + 1 := by simp [ByteArray.size, htm]
            obtain ⟨t2, ht2⟩ : ∃ x, Hid (tq.take tm = x) := ⟨_, Lib.hid rfl⟩
            have e1 := ext_head tq tm
            rw [ht2.out] at e1
            have l2 : t2.length ≤ 960001 := by rw [← ht2.out, List.length_take]; omega
            have hXl0 : (X.map D.str).length ≤ 1000000000 := by simp; omega
            have hszw4 := hB4.size
            have hszk4 := hK4.lt
            go_upto_region 14 with (at_builtin; refine append_two rfl (.tmp 57) (.tmp 63) 23 9 1 16 _ rfl Tryz.underlying23 str_info rfl (by decide) (by decide) (w.heap.size + 1) (fun g => w.heap.size + 1 ≤ g) _ _ rfl w4.heap.size rfl (HO4.out.alloc _) [.string ⟨t2.toArray⟩] (.str t2) (BlkIs.fresh _ _ _) rfl (by simp [Value.oneCell']) (by unfold Rep; rfl) hXl0 (by simp; omega) ?_; intro v7 w7 hown7 hb7 hk7 ho7)
            have hB7 : Below w.heap.size w w7 := (hB4.alloc hB4.size _).trans (hb7.mono (by omega))
            have hK7 := (hK4.alloc (.cells #[.string ⟨t2.toArray⟩] 9)).below hb7 (by omega)
            have HO7 : Hid (Own w7 (w.heap.size + 1) (fun g => w.heap.size + 1 ≤ g) 9 1 v7 ((X ++ [t2]).map D.str)) := Lib.hid (by simpa using hown7)
            have HR9 : Hid (Rep w7 (fun g => wo.heap.size ≤ g ∧ g < w4.heap.size) (.lst 6 (q.map encR)) [.slice A5 q.length c5]) := Lib.hid (Rep.keep (fun _ h _ => h) (fun g hg hl => hk7 g (hne g hg.1) hl) _ _ (HRe.out.alloc (.cells #[.string ⟨t2.toArray⟩] 9)))
            have hne7 : ∀ g, wo.heap.size ≤ g → g < w4.heap.size → some g ≠ v7.ownBlock := by
              intro g hg hl
              rcases ho7 with h | ⟨g9, h, h9⟩
              · rw [h]; exact hne g hg
              · rw [h]; intro e; injection e with e; simp at h9; omega
            clear hown7 hb7 hk7 ho7 HO4 HRe
            have hfr : Own (w7.alloc (.cells #[.string ⟨tq.toArray⟩, .string ⟨t1.toArray⟩, .string ⟨t3.toArray⟩] 9)) (w7.heap.size) (fun g => w7.heap.size ≤ g) 9 1 (.slice (some ⟨w7.heap.size, 0, none⟩) 3 3) ([tq, t1, t3].map D.str) := Own.fresh (dcells3 tq t1 t3) (Nat.le_refl _) (by simp [maxLen]) rfl rfl
            have hXm : ((X ++ [t2]).map D.str).length + ([tq, t1, t3].map D.str).length ≤ 1000000000 := by simp; omega
            have HFR := Lib.hid hfr
            have hszw := hB7.size
            have hszk := hK7.lt
            clear hfr
            go_wp2_with (first | (at_builtin; go_must (refine append_all rfl (.tmp 65) (.tmp 71) 23 9 1 16 _ rfl Tryz.underlying23 str_info rfl (by decide) (by decide) (w.heap.size + 1) (fun g => w.heap.size + 1 ≤ g) _ _ rfl _ rfl (HO7.out.alloc _) w7.heap.size (fun g => w7.heap.size ≤ g) ([tq, t1, t3].map D.str) HFR.out (fun q hq => ⟨by omega, HO7.out.ne_far hq⟩) hXm (by simp; omega) ?_); intro v8 w8 hown8 hb8 hk8; have hB8 : Below w.heap.size w w8 := (hB7.alloc hB7.size _).trans (hb8.mono (by omega)); have hK8 := (hK7.alloc (.cells #[.string ⟨tq.toArray⟩, .string ⟨t1.toArray⟩, .string ⟨t3.toArray⟩] 9)).below hb8 (by omega); have HR8 : Hid (RulesIn w8 A5 c5 q) := Lib.hid ⟨fun _ => True, Rep.keep (ok' := fun _ => True) (fun _ _ _ => trivial) (fun g hg hl => hk8 g ((fun g hg hl => hne7 g hg hl) g hg.1 hg.2) hl) _ _ (HR9.out.alloc (.cells #[.string ⟨tq.toArray⟩, .string ⟨t1.toArray⟩, .string ⟨t3.toArray⟩] 9))⟩; have q0 : w8.cell? ⟨w.heap.size, 0, none⟩ = some (.slice (some ⟨g, off, none⟩) n c1) := hK8.cell 0; have a0 := (hB8.cell (p := ⟨g, off + k, none⟩) hg).trans A0; have hlg : g < w8.heap.size := (by have := hB8.size; omega)) | (go_at_call 10; refine (cn _ _).mono ?_; rintro e w9 ⟨rfl, rfl⟩))
            refine (f4 A5 c5 _ HR8.out (HL.out.below hB8)).mono ?_
            rintro e w9 ⟨rfl, hb9⟩
            go_wp2_with fail
            go_roundw
            case rel => exact ⟨k + 1, X ++ [t2] ++ [tq, t1, t3], by omega, by go_num, Lib.hid (by have h := hown8.below hb9; simpa using h), Lib.hid (by
              intro s hs
              simp only [List.mem_append, List.mem_cons, List.not_mem_nil, or_false] at hs
              have hXs := HX.out s
              rcases hs with (hs | rfl) | rfl | rfl | rfl
              · exact hXs hs
              · omega
              · omega
              · omega
              · omega), by simp; omega, by omega, hB8.trans (hb9.mono hB8.size), hK8.below hb9 hK8.lt⟩
            case measure => simp [intOf]; omega
      · obtain ⟨A6, c6, hv6, _⟩ := HO.out.rep.len
        rw [List.length_map] at hv6
        obtain ⟨xl, hxl⟩ : ∃ x, Hid (X.length = x) := ⟨_, Lib.hid rfl⟩
        rw [hxl.out] at hv6 hXl
        subst hv6
        have hXl2 : xl ≤ 9000 := by omega
        have hex : (¬ k < n) ∨ (k < n ∧ ¬ k < 6) := by omega
        clear hlt
        rcases hex with hkn | ⟨hkn, hk6'⟩
        · go_wp2_with fail
          go_loopw [10] (fun i wr => ∃ j : Nat, j ≤ xl ∧ i = .int .i64 j ∧ Below wo.heap.size wo wr) (fun i _ => xl - (intOf i).toNat)
          case atStart => exact ⟨0, by omega, rfl, Below.refl _ _⟩
          case round =>
            obtain ⟨j, hj, rfl, hbj⟩ := hrel
            obtain ⟨wp, rfl⟩ : ∃ wp : World, wp = wr := ⟨_, rfl⟩
            have hTj := HT.out _ (hb.trans (hbj.mono hb.size))
            by_cases hlt : j < xl ∧ j < 30
            · obtain ⟨hlt, hj30⟩ := hlt
              have hjl : j < X.length := by rw [hxl.out]; exact hlt
              have hrj := (HO.out.below hbj).rep
              obtain ⟨g, off, rfl, _, hg, a0⟩ := strs_at hrj j hjl
              have hsl := HX.out _ (List.getElem_mem hjl)
              obtain ⟨s, hs⟩ : ∃ q, Hid (X[j] = q) := ⟨_, Lib.hid rfl⟩
              rw [hs.out] at a0 hsl
              have d1 := fun W ht => parseD_any s hsl W ht
              have d2 := fun W => parseQ_any s hsl W
              rw [← parse_same s] at d2
              unfold ParseRetD at d1
              unfold ParseRetQ at d2
              have hbzj := hbj.size
              clear hrj
              cases hps : parseD s with
              | none =>
                rw [hps] at d1 d2
                simp only at d1 d2
                have d6 := fun (A B : Option Addr) c d W h h2 => eqRules_self [] A B c d W h h2
                simp only [List.length_nil] at d6
                clear hps
                go_wp2_with fail
                refine (d1 _ hTj).mono ?_
                rintro e w1 ⟨hb1, rfl⟩
                have hlg1 : g < w1.heap.size := by have := hb1.size; omega
                have b0 := (hb1.cell (p := ⟨g, off + j, none⟩) hg).trans a0
                go_wp2_with fail
                refine (d2 _).mono ?_
                rintro e w2 ⟨hb2, rfl⟩
                have hb12 := hb1.trans (hb2.mono hb1.size)
                clear b0 hlg1
                go_wp2_with (go_at_call 10; refine (cn _ _).mono ?_; rintro e w9 ⟨rfl, rfl⟩)
                refine (d6 _ _ _ _ _ ⟨fun _ => True, rep_nil⟩ ⟨fun _ => True, rep_nil⟩).mono ?_
                rintro e w3 ⟨rfl, hb3⟩
                go_wp2_with fail
                go_roundw
                case rel => exact ⟨j + 1, by omega, by go_num, hbj.trans ((hb12.trans (hb3.mono hb12.size)).mono hbzj)⟩
                case measure => simp [intOf]; omega
              | some l =>
                rw [hps] at d1 d2
                simp only at d1 d2
                have d6 := fun (A B : Option Addr) c d W h h2 => eqRules_self l A B c d W h h2
                clear hps
                go_wp2_with fail
                refine (d1 _ hTj).mono ?_
                rintro e w1 ⟨hb1, A7, c7, rfl, hr7⟩
                have hlg1 : g < w1.heap.size := by have := hb1.size; omega
                have b0 := (hb1.cell (p := ⟨g, off + j, none⟩) hg).trans a0
                go_wp2_with fail
                refine (d2 _).mono ?_
                rintro e w2 ⟨hb2, A8, c8, rfl, hr8⟩
                have hb12 := hb1.trans (hb2.mono hb1.size)
                have HR7 : Hid (RulesIn w2 A7 c7 l) := Lib.hid ⟨_, hr7.below hb2⟩
                have HR8 : Hid (RulesIn w2 A8 c8 l) := Lib.hid ⟨_, hr8⟩
                clear hr7 hr8
                clear b0 hlg1
                go_wp2_with (go_at_call 10; refine (cn _ _).mono ?_; rintro e w9 ⟨rfl, rfl⟩)
                refine (d6 _ _ _ _ _ HR7.out HR8.out).mono ?_
                rintro e w3 ⟨rfl, hb3⟩
                go_wp2_with fail
                go_roundw
                case rel => exact ⟨j + 1, by omega, by go_num, hbj.trans ((hb12.trans (hb3.mono hb12.size)).mono hbzj)⟩
                case measure => simp [intOf]; omega
            · have hex2 : (¬ j < xl) ∨ (j < xl ∧ ¬ j < 30) := by omega
              clear hlt
              rcases hex2 with hjx | ⟨hjx, hj30⟩
              · go_wp2_with fail
                refine (dwakes_any _ hTj).mono ?_
                rintro e w3 ⟨rfl, hb3⟩
                go_wp2_with fail
                go_ret
                exact ⟨rfl, (hb.trans (hbj.mono hb.size)).trans (hb3.mono (by have := hbj.size; have := hb.size; omega))⟩
              · go_wp2_with fail
                refine (dwakes_any _ hTj).mono ?_
                rintro e w3 ⟨rfl, hb3⟩
                go_wp2_with fail
                go_ret
                exact ⟨rfl, (hb.trans (hbj.mono hb.size)).trans (hb3.mono (by have := hbj.size; have := hb.size; omega))⟩
        · go_wp2_with fail
          go_loopw [10] (fun i wr => ∃ j : Nat, j ≤ xl ∧ i = .int .i64 j ∧ Below wo.heap.size wo wr) (fun i _ => xl - (intOf i).toNat)
          case atStart => exact ⟨0, by omega, rfl, Below.refl _ _⟩
          case round =>
            obtain ⟨j, hj, rfl, hbj⟩ := hrel
            obtain ⟨wp, rfl⟩ : ∃ wp : World, wp = wr := ⟨_, rfl⟩
            have hTj := HT.out _ (hb.trans (hbj.mono hb.size))
            by_cases hlt : j < xl ∧ j < 30
            · obtain ⟨hlt, hj30⟩ := hlt
              have hjl : j < X.length := by rw [hxl.out]; exact hlt
              have hrj := (HO.out.below hbj).rep
              obtain ⟨g, off, rfl, _, hg, a0⟩ := strs_at hrj j hjl
              have hsl := HX.out _ (List.getElem_mem hjl)
              obtain ⟨s, hs⟩ : ∃ q, Hid (X[j] = q) := ⟨_, Lib.hid rfl⟩
              rw [hs.out] at a0 hsl
              have d1 := fun W ht => parseD_any s hsl W ht
              have d2 := fun W => parseQ_any s hsl W
              rw [← parse_same s] at d2
              unfold ParseRetD at d1
              unfold ParseRetQ at d2
              have hbzj := hbj.size
              clear hrj
              cases hps : parseD s with
              | none =>
                rw [hps] at d1 d2
                simp only at d1 d2
                have d6 := fun (A B : Option Addr) c d W h h2 => eqRules_self [] A B c d W h h2
                simp only [List.length_nil] at d6
                clear hps
                go_wp2_with fail
                refine (d1 _ hTj).mono ?_
                rintro e w1 ⟨hb1, rfl⟩
                have hlg1 : g < w1.heap.size := by have := hb1.size; omega
                have b0 := (hb1.cell (p := ⟨g, off + j, none⟩) hg).trans a0
                go_wp2_with fail
                refine (d2 _).mono ?_
                rintro e w2 ⟨hb2, rfl⟩
                have hb12 := hb1.trans (hb2.mono hb1.size)
                clear b0 hlg1
                go_wp2_with (go_at_call 10; refine (cn _ _).mono ?_; rintro e w9 ⟨rfl, rfl⟩)
                refine (d6 _ _ _ _ _ ⟨fun _ => True, rep_nil⟩ ⟨fun _ => True, rep_nil⟩).mono ?_
                rintro e w3 ⟨rfl, hb3⟩
                go_wp2_with fail
                go_roundw
                case rel => exact ⟨j + 1, by omega, by go_num, hbj.trans ((hb12.trans (hb3.mono hb12.size)).mono hbzj)⟩
                case measure => simp [intOf]; omega
              | some l =>
                rw [hps] at d1 d2
                simp only at d1 d2
                have d6 := fun (A B : Option Addr) c d W h h2 => eqRules_self l A B c d W h h2
                clear hps
                go_wp2_with fail
                refine (d1 _ hTj).mono ?_
                rintro e w1 ⟨hb1, A7, c7, rfl, hr7⟩
                have hlg1 : g < w1.heap.size := by have := hb1.size; omega
                have b0 := (hb1.cell (p := ⟨g, off + j, none⟩) hg).trans a0
                go_wp2_with fail
                refine (d2 _).mono ?_
                rintro e w2 ⟨hb2, A8, c8, rfl, hr8⟩
                have hb12 := hb1.trans (hb2.mono hb1.size)
                have HR7 : Hid (RulesIn w2 A7 c7 l) := Lib.hid ⟨_, hr7.below hb2⟩
                have HR8 : Hid (RulesIn w2 A8 c8 l) := Lib.hid ⟨_, hr8⟩
                clear hr7 hr8
                clear b0 hlg1
                go_wp2_with (go_at_call 10; refine (cn _ _).mono ?_; rintro e w9 ⟨rfl, rfl⟩)
                refine (d6 _ _ _ _ _ HR7.out HR8.out).mono ?_
                rintro e w3 ⟨rfl, hb3⟩
                go_wp2_with fail
                go_roundw
                case rel => exact ⟨j + 1, by omega, by go_num, hbj.trans ((hb12.trans (hb3.mono hb12.size)).mono hbzj)⟩
                case measure => simp [intOf]; omega
            · have hex2 : (¬ j < xl) ∨ (j < xl ∧ ¬ j < 30) := by omega
              clear hlt
              rcases hex2 with hjx | ⟨hjx, hj30⟩
              · go_wp2_with fail
                refine (dwakes_any _ hTj).mono ?_
                rintro e w3 ⟨rfl, hb3⟩
                go_wp2_with fail
                go_ret
                exact ⟨rfl, (hb.trans (hbj.mono hb.size)).trans (hb3.mono (by have := hbj.size; have := hb.size; omega))⟩
              · go_wp2_with fail
                refine (dwakes_any _ hTj).mono ?_
                rintro e w3 ⟨rfl, hb3⟩
                go_wp2_with fail
                go_ret
                exact ⟨rfl, (hb.trans (hbj.mono hb.size)).trans (hb3.mono (by have := hbj.size; have := hb.size; omega))⟩

end

end Go.Proofs.YthdicdkgfmiepaaGreatDoor
