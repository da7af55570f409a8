/- gantletref11.Parse walked, where it fails, too. (Printed by gen/gen_dtn.py.) Plain: what the program reads is the text of what it makes of it. Plain: a pattern's text is read as the pattern, by both. Plain: a text is rules by the program just if it is by the reference. -/
import Derived.Test.YthdicdkgfmiepaaGreatDoorZF
import Derived.Test.YthdicdkgfmiepaaGreatDoorZE
import Derived.Test.YthdicdkgfmiepaaGreatDoorZC
import Derived.Test.YthdicdkgfmiepaaGreatDoorZB
import Derived.Test.YthdicdkgfmiepaaGreatDoorZA
namespace Go.Proofs.YthdicdkgfmiepaaGreatDoor

/- gantletref11.Parse walked, where it fails, too. (Printed by gen/gen_dtn.py.) -/
section
open Go.RowKit

/-- append_one at an operation -/
theorem wp_append_one {P : Program} {o : Oper} {a : Act} {w : World} {K : Act → World → Prop} {Q : Exit → Act → World → Prop} (s x : Operand) (T e : TypeId) (z bytes : Nat) (zero : Value)
    (ho : o.op = .call { callee := .builtin .append, args := #[s, x], argTypes := #[T, T] })
    (hT : P.underlying T = some (.slice e)) (hi : (P.info? e).map (fun i => (i.zero, i.size, i.bytes)) = some (some zero, z, bytes)) (hzs : zero.cells.size = z) (hsz : 0 < z) (hb : bytes ≤ 1000)
    (B : Nat) (ok : Nat → Prop) (v : Value) (ds : List D) (hs : a.eval s = v) (g : Nat) (hx : a.eval x = .slice (some ⟨g, 0, none⟩) 1 1)
    (hown : Own w B ok e z v ds) (cs : List Value) (d : D) (hnew : BlkIs w g e cs.toArray) (hl : cs.length = z) (h1 : ∀ u ∈ cs, u.oneCell' = true)
    (hd : Rep w (fun k => ok k ∧ some k ≠ v.ownBlock) d cs) (hlen : ds.length ≤ 1000000000) (hB : B ≤ w.heap.size)
    (h : ∀ v' w', Own w' B ok e z v' (ds ++ [d]) → Below B w w' → (∀ k, some k ≠ v.ownBlock → k < w.heap.size → w'.heap[k]? = w.heap[k]?) → K (a.put o.dst v') w') :
    Oper.wp P o a w K Q := by
  obtain ⟨i0, hi0, hz0, hz1, hz2⟩ := info_parts hi
  obtain ⟨xs, hrow, hcells⟩ := hown
  have hmul : (ds.length + 1) * bytes ≤ 140737488355328 := by
    have := Nat.mul_le_mul (show ds.length + 1 ≤ 1000000001 by omega) hb
    omega
  obtain ⟨v', w', hrun, h2, h3, _, h5⟩ := run_append_own_at (P := P) w B T o.type e i0 zero z bytes hT hi0 hz0 hz1 hz2 hzs hsz v ds.length xs hrow ⟨g, 0, none⟩ 1 1 cs (by rw [hl]; omega) (hnew.cells (by simp)) h1 (by unfold maxLen; omega) hmul hB
  unfold Oper.wp execOp
  simp only [ho, resolve, invoke, builtin, Sem.run_bind, Sem.run_pure, Result.andThen_ok, List.map_toArray, List.map_cons, List.map_nil, hs, hx, hrun]
  have hkeep : ∀ k, some k ≠ v.ownBlock → k < w.heap.size → w'.heap[k]? = w.heap[k]? := fun k hk hlt => h3.block k hlt hk
  have hok : ∀ k, ok k ∧ some k ≠ v.ownBlock → k < w.heap.size → ok k ∧ some k ≠ v'.ownBlock := by
    intro k hk hlt
    refine ⟨hk.1, ?_⟩
    rcases h5 with h5 | h5
    · rw [h5]; exact hk.2
    · rw [h5]; intro e; injection e with e; omega
  exact h v' w' ⟨xs ++ cs, by rw [List.length_append]; exact h2, Cells.snoc hl (Rep.keep hok (fun k hk => hkeep k hk.2) d cs hd) (Cells.keep hok (fun k hk => hkeep k hk.2) hcells)⟩ ((Below.refl _ _).grown h3 hB (own_block_ge hrow)) (fun k hk hlt => h3.block k hlt hk)

def ParseRetQ (o : Option (List Rule)) (w : World) (e : Ending) (w' : World) : Prop := Below w.heap.size w w' ∧ match o with
  | none => e = .returned (.tuple #[.slice none 0 0, .bool false])
  | some l => ∃ (A : Option Addr) (d : Nat), e = .returned (.tuple #[.slice A l.length d, .bool true]) ∧ Rep w' (fun k => w.heap.size ≤ k) (.lst 6 (l.map encR)) [.slice A l.length d]

set_option maxRecDepth 100000 in
set_option maxHeartbeats 16000000 in
theorem parseQ_any (s : List UInt8) (hs : s.length ≤ 140737488355327) (w : World) : Calls Tryz.prog 13 #[.string ⟨s.toArray⟩] w (ParseRetQ (parseQ s) w) := by
  have hsz : (⟨s.toArray⟩ : ByteArray).size = s.length := by simp [ByteArray.size]
  obtain ⟨R, hR⟩ : ∃ R, Hid (parseQ s = R) := ⟨_, Lib.hid rfl⟩
  rw [hR.out]
  have hR2 := hR.out
  unfold parseQ at hR2
  go_enter Tryz.func13, Tryz.ntmps13
  by_cases hbig : 16000 < s.length
  · rw [if_pos hbig] at hR2
    obtain rfl : R = none := hR2.symm
    go_wp2_with fail
    refine bodyPost_ret (v := .tuple #[.slice none 0 0, .bool false]) (by simp [results, Tryz.results13, go_sem]) rfl ?_
    exact ⟨Below.refl _ _, rfl⟩
  · rw [if_neg hbig] at hR2
    obtain ⟨X, hXX⟩ : ∃ X, Hid (linesQ s.length 0 s = X) := ⟨_, Lib.hid rfl⟩
    rw [hXX.out] at hR2
    go_wp2_with fail
    go_loopw [0, 4] (fun u0 v wr => ∃ (sk : List UInt8) (done : List Rule) (f : Nat), u0 = .string ⟨sk.toArray⟩ ∧ sk.length ≤ f ∧ done.length + sk.length ≤ s.length ∧ Hid (X = (linesQ f done.length sk).map (fun l => done ++ l)) ∧ Hid (Own wr w.heap.size (fun g => w.heap.size ≤ g) 47 6 v (done.map encR)) ∧ Below w.heap.size w wr) (fun u0 _ _ => match u0 with | .string b => b.size | _ => 0)
    case atStart => exact ⟨s, [], s.length, rfl, Nat.le_refl _, by simp, Lib.hid (by rw [← hXX.out]; simp), Lib.hid (Own.nil _ _ _ _ _), Below.refl _ _⟩
    case round =>
      obtain ⟨sk, done, fu, rfl, hfu, hdl, hX, hown, hb⟩ := hrel
      obtain ⟨wo, rfl⟩ : ∃ wo : World, wo = wr := ⟨_, rfl⟩
      replace hX := hX.out
      obtain ⟨Av, dv, rfl, _⟩ := hown.out.rep.len
      rw [List.length_map] at hown ⊢
      have hdlen : (done.map encR).length ≤ 1000000000 := by rw [List.length_map]; omega
      obtain ⟨dn, hdn⟩ : ∃ x, Hid (done.length = x) := ⟨_, Lib.hid rfl⟩
      rw [hdn.out] at hown hdl hX ⊢
      by_cases hne : sk = []
      · subst hne
        rw [linesQ_nil, Option.map_some, List.append_nil] at hX
        rw [hX] at hR2
        simp only at hR2
        have HRI : Hid (RulesIn wo Av dv done) := Lib.hid (by
          have h := hown.out.rep
          rw [← hdn.out] at h
          exact ⟨_, h⟩)
        have hwf : RulesWf done := ⟨by rw [hdn.out]; unfold reachBytes; omega, linesQ_wf s.length 0 s done (by rw [hXX.out, hX]) (by omega)⟩
        have f1 := mayR_any done hwf Av dv wo HRI.out
        rw [hdn.out] at f1
        clear hwf
        cases hm : mayRs done
        · rw [hm, if_neg (by simp)] at hR2
          rw [hm] at f1
          obtain rfl : R = none := hR2.symm
          go_wp2_with fail
          refine f1.mono ?_
          rintro e w2 ⟨rfl, hb2⟩
          go_wp2_with fail
          refine bodyPost_ret (v := .tuple #[.slice none 0 0, .bool false]) (by simp [results, Tryz.results13, go_sem]) rfl ?_
          exact ⟨hb.trans (hb2.mono hb.size), rfl⟩
        · have hl96 : done.length ≤ 96 := by
            unfold mayRs at hm
            rw [Bool.and_eq_true, decide_eq_true_eq] at hm
            exact hm.2
          have f2 := fun W h => textR_any done (ruleTxtD hm) hl96 Av dv W h
          rw [hdn.out] at f2
          rw [hm] at f1 hR2
          obtain ⟨tx, htx⟩ : ∃ x, Hid (rulesT done = x) := ⟨_, Lib.hid rfl⟩
          rw [htx.out] at f2 hR2
          clear hm
          by_cases hts : tx = s
          · subst hts
            rw [if_pos ⟨rfl, rfl⟩] at hR2
            obtain rfl : R = some done := hR2.symm
            go_wp2_with fail
            refine f1.mono ?_
            rintro e w2 ⟨rfl, hb2⟩
            clear f1
            go_wp2_with fail
            refine (f2 _ (HRI.out.below hb2)).mono ?_
            rintro e w3 ⟨rfl, hb3⟩
            have hb23 := hb2.trans (hb3.mono hb2.size)
            go_wp2_with fail
            refine bodyPost_ret (v := .tuple #[.slice Av dn dv, .bool true]) (by simp [results, Tryz.results13, go_sem]) rfl ?_
            refine ⟨hb.trans (hb23.mono hb.size), Av, dv, by rw [hdn.out], ?_⟩
            have h := (hown.out.below hb23).rep
            rw [hdn.out]
            exact h.imp (fun _ hq _ => by rcases hq with h | h <;> exact h)
          · rw [if_neg (by intro h; exact hts h.2)] at hR2
            obtain rfl : R = none := hR2.symm
            have hE : (tx == s) = false := by simpa using hts
            have hE2 : (tx != s) = true := by simpa using hts
            clear hts
            go_wp2_with fail
            refine f1.mono ?_
            rintro e w2 ⟨rfl, hb2⟩
            clear f1
            go_wp2_with fail
            refine (f2 _ (HRI.out.below hb2)).mono ?_
            rintro e w3 ⟨rfl, hb3⟩
            have hb23 := hb2.trans (hb3.mono hb2.size)
            go_wp2_with fail
            refine bodyPost_ret (v := .tuple #[.slice none 0 0, .bool false]) (by simp [results, Tryz.results13, go_sem]) rfl ?_
            exact ⟨hb.trans (hb23.mono hb.size), rfl⟩
      · have hlt : 0 < sk.length := by
          cases sk with
          | nil => exact absurd rfl hne
          | cons _ _ => simp
        obtain ⟨fg, rfl, hcons⟩ := linesQ_cons (c := dn) hne hfu
        rw [hcons] at hX
        clear hcons hne
        have l0 := cutQ_len sk [10]
        have l0s := fun h => cutQ_less (s := sk) (b := [10]) h hlt (by simp)
        have q0 := fun W => qcut_any sk [10] (by omega) (by decide) W
        obtain ⟨⟨line, rest, ok0⟩, hc0⟩ : ∃ x, Hid (cutQ sk [10] = x) := ⟨_, Lib.hid rfl⟩
        rw [hc0.out] at hX l0 l0s q0
        simp only at hX l0 l0s q0
        obtain ⟨RW, hRW⟩ : ∃ x, rowQ line = x := ⟨_, rfl⟩
        have hrow := hRW.symm
        rw [hRW] at hX
        clear hRW
        unfold rowQ at hrow
        have l1 := cutQ_len line arrowT
        have q1 := fun W => qcut_any line arrowT (by omega) (by decide) W
        obtain ⟨⟨a, b, ok1⟩, hc1⟩ : ∃ x, Hid (cutQ line arrowT = x) := ⟨_, Lib.hid rfl⟩
        rw [hc1.out] at hrow l1 q1
        simp only at hrow l1 q1
        have l2 := cutQ_len b colonT
        have q2 := fun W => qcut_any b colonT (by omega) (by decide) W
        obtain ⟨⟨c, d, ok2⟩, hc2⟩ : ∃ x, Hid (cutQ b colonT = x) := ⟨_, Lib.hid rfl⟩
        rw [hc2.out] at hrow l2 q2
        simp only at hrow l2 q2
        have l3 := cutQ_len d [32]
        have q3 := fun W => qcut_any d [32] (by omega) (by decide) W
        obtain ⟨⟨en, f, ok3⟩, hc3⟩ : ∃ x, Hid (cutQ d [32] = x) := ⟨_, Lib.hid rfl⟩
        rw [hc3.out] at hrow l3 q3
        simp only at hrow l3 q3
        unfold arrowT at q1
        unfold colonT at q2
        go_wp2_with fail
        refine (q0 _).mono ?_
        rintro e w1 ⟨rfl, m1, rfl⟩
        go_wp2_with fail
        refine (q1 _).mono ?_
        rintro e w2 ⟨rfl, m2, rfl⟩
        go_wp2_with fail
        refine (q2 _).mono ?_
        rintro e w3 ⟨rfl, m3, rfl⟩
        go_wp2_with fail
        refine (q3 _).mono ?_
        rintro e w4 ⟨rfl, m4, rfl⟩
        clear q0 q1 q2 q3
        have hb4 := below_drewsN (below_drewsN hb (m1 + m2 + m3)) m4
        have HO4 := Lib.hid ((hown.out.drewN (m1 + m2 + m3)).drewN m4)
        obtain ⟨w4, hw4⟩ : ∃ W, (wo.drewN (m1 + m2 + m3)).drewN m4 = W := ⟨_, rfl⟩
        rw [hw4] at hb4 HO4 ⊢
        clear hown
        cases ok0
        · have hXn : X = none := by rw [hX, hrow]; simp
          subst hXn
          simp only at hR2
          obtain rfl : R = none := hR2.symm
          go_wp2_with fail
          refine bodyPost_ret (v := .tuple #[.slice none 0 0, .bool false]) (by simp [results, Tryz.results13, go_sem]) rfl ?_
          exact ⟨hb4, rfl⟩
        cases ok1
        · have hXn : X = none := by rw [hX, hrow]; simp
          subst hXn
          simp only at hR2
          obtain rfl : R = none := hR2.symm
          go_wp2_with fail
          refine bodyPost_ret (v := .tuple #[.slice none 0 0, .bool false]) (by simp [results, Tryz.results13, go_sem]) rfl ?_
          exact ⟨hb4, rfl⟩
        cases ok2
        · have hXn : X = none := by rw [hX, hrow]; simp
          subst hXn
          simp only at hR2
          obtain rfl : R = none := hR2.symm
          go_wp2_with fail
          refine bodyPost_ret (v := .tuple #[.slice none 0 0, .bool false]) (by simp [results, Tryz.results13, go_sem]) rfl ?_
          exact ⟨hb4, rfl⟩
        cases ok3
        · have hXn : X = none := by rw [hX, hrow]; simp
          subst hXn
          simp only at hR2
          obtain rfl : R = none := hR2.symm
          go_wp2_with fail
          refine bodyPost_ret (v := .tuple #[.slice none 0 0, .bool false]) (by simp [results, Tryz.results13, go_sem]) rfl ?_
          exact ⟨hb4, rfl⟩
        by_cases h96 : dn = 96
        · have h96e : ((dn : Int) == 96) = true := by simp; omega
          have hXn : X = none := by rw [hX]; simp [h96]
          subst hXn
          simp only at hR2
          obtain rfl : R = none := hR2.symm
          go_wp2_with fail
          refine bodyPost_ret (v := .tuple #[.slice none 0 0, .bool false]) (by simp [results, Tryz.results13, go_sem]) rfl ?_
          exact ⟨hb4, rfl⟩
        have h96e : ((dn : Int) == 96) = false := by simp; omega
        by_cases h6x : 6 < en.length
        · have h6 : ¬ en.length ≤ 6 := by omega
          have h6e : decide ((6 : Int) < en.length) = true := by simp; omega
          have hXn : X = none := by rw [hX, hrow]; simp [h6]
          subst hXn
          simp only at hR2
          obtain rfl : R = none := hR2.symm
          go_wp2_with fail
          refine bodyPost_ret (v := .tuple #[.slice none 0 0, .bool false]) (by simp [results, Tryz.results13, go_sem]) rfl ?_
          exact ⟨hb4, rfl⟩
        have h6 : en.length ≤ 6 := by omega
        have h6e : decide ((6 : Int) < en.length) = false := by simp; omega
        have hrest := l0s rfl
        rw [if_pos ⟨rfl, rfl, rfl, h6⟩] at hrow
        have hnum := fun W => num_any en (by omega) W
        unfold NumRet at hnum
        go_wp2_with fail
        refine (hnum _).mono ?_
        rintro e w5 ⟨⟨x, rfl, hxn⟩, hb5⟩
        have hb05 : Below w.heap.size w w5 := hb4.trans (hb5.mono hb4.size)
        have HO5 : Hid (Own w5 w.heap.size (fun g => w.heap.size ≤ g) 47 6 (.slice Av dn dv) (done.map encR)) := Lib.hid (HO4.out.below hb5)
        clear hnum HO4
        cases hN : numT en with
        | none =>
          rw [Option.isSome_none]
          go_wp2_with fail
          have r5 : RdIs (w5.alloc (.cells #[.string ⟨c.toArray⟩, .int .i64 0] 76)) w5.heap.size c (0 : Nat) := BlkIs.fresh _ _ _
          have hcall := rdQ_any 9 c 0 w5.heap.size _ (by omega) (by omega) (by omega) r5
          unfold RdPostQ at hcall
          cases hrd : rdQ 9 c 0 with
          | none =>
            rw [hrd] at hcall
            simp only at hcall
            have hXn : X = none := by rw [hX, hrow]; simp [readQ, hN]
            refine hcall.mono ?_
            rintro e w6 ⟨hk6, a6, b6, A6, n6, d6, rfl⟩
            have hbe : Below w5.heap.size w5 w6 := (below_alloc _ _).trans (hk6.below (by simp))
            have hb06 : Below w.heap.size w w6 := hb05.trans (hbe.mono hb05.size)
            subst hXn
            simp only at hR2
            obtain rfl : R = none := hR2.symm
            go_wp2_with fail
            refine bodyPost_ret (v := .tuple #[.slice none 0 0, .bool false]) (by simp [results, Tryz.results13, go_sem]) rfl ?_
            exact ⟨hb06.alloc hb06.size _, rfl⟩
          | some r =>
            obtain ⟨p, rr, mm⟩ := r
            rw [hrd] at hcall
            simp only at hcall
            refine hcall.mono ?_
            rintro e w6 ⟨hk6, B, d2, rfl, hrep6, r6⟩
            have hbe : Below w5.heap.size w5 w6 := (below_alloc _ _).trans (hk6.below (by simp))
            have hb06 : Below w.heap.size w w6 := hb05.trans (hbe.mono hb05.size)
            have hXn : X = none := by rw [hX, hrow]; simp [readQ, hN]
            subst hXn
            simp only at hR2
            obtain rfl : R = none := hR2.symm
            go_wp2_with fail
            refine bodyPost_ret (v := .tuple #[.slice none 0 0, .bool false]) (by simp [results, Tryz.results13, go_sem]) rfl ?_
            exact ⟨hb06.alloc hb06.size _, rfl⟩
        | some n =>
          rw [Option.isSome_some]
          obtain rfl : x = n := hxn n hN
          clear hxn
          go_wp2_with fail
          have r5 : RdIs (w5.alloc (.cells #[.string ⟨c.toArray⟩, .int .i64 0] 76)) w5.heap.size c (0 : Nat) := BlkIs.fresh _ _ _
          have hcall := rdQ_any 9 c 0 w5.heap.size _ (by omega) (by omega) (by omega) r5
          unfold RdPostQ at hcall
          cases hrd : rdQ 9 c 0 with
          | none =>
            rw [hrd] at hcall
            simp only at hcall
            have hXn : X = none := by rw [hX, hrow]; simp [readQ, hN, hrd]
            refine hcall.mono ?_
            rintro e w6 ⟨hk6, a6, b6, A6, n6, d6, rfl⟩
            have hbe : Below w5.heap.size w5 w6 := (below_alloc _ _).trans (hk6.below (by simp))
            have hb06 : Below w.heap.size w w6 := hb05.trans (hbe.mono hb05.size)
            subst hXn
            simp only at hR2
            obtain rfl : R = none := hR2.symm
            go_wp2_with fail
            refine bodyPost_ret (v := .tuple #[.slice none 0 0, .bool false]) (by simp [results, Tryz.results13, go_sem]) rfl ?_
            exact ⟨hb06.alloc hb06.size _, rfl⟩
          | some r =>
            obtain ⟨p, rr, mm⟩ := r
            rw [hrd] at hcall
            simp only at hcall
            refine hcall.mono ?_
            rintro e w6 ⟨hk6, B, d2, rfl, hrep6, r6⟩
            have hbe : Below w5.heap.size w5 w6 := (below_alloc _ _).trans (hk6.below (by simp))
            have hb06 : Below w.heap.size w w6 := hb05.trans (hbe.mono hb05.size)
            have HO6 := Lib.hid (HO5.out.below hbe)
            obtain ⟨gw, hgw⟩ : ∃ x, Hid (w5.heap.size + 1 = x) := ⟨_, Lib.hid rfl⟩
            have HR6 : Hid (Rep w6 (fun k => gw ≤ k) (encP p) [.int .i64 p.op, .int .i64 p.nt, .slice B p.kids.length d2]) := Lib.hid (hrep6.imp (fun k hk _ => by rw [← hgw.out]; simpa using hk))
            have hfar : ∀ q, gw ≤ q → some q ≠ Value.ownBlock (.slice Av dn dv) := fun q hq => HO5.out.ne_far (by rw [← hgw.out] at hq; omega)
            have hgwb : w.heap.size ≤ gw := by rw [← hgw.out]; have := hb05.size; omega
            have c6 : w6.cell? ⟨w5.heap.size, 0, none⟩ = some (.string ⟨rr.toArray⟩) := BlkIs.cell r6 0
            have l6 : w5.heap.size < w6.heap.size := BlkIs.lt r6
            clear hrep6 hcall r5 r6 hk6 hbe hb5 HO5
            go_upto_region 15 with fail
            obtain ⟨g21, hg⟩ : ∃ x, Hid (w6.heap.size = x) := ⟨_, Lib.hid rfl⟩
            obtain ⟨w7', hw7⟩ : ∃ W, W = w6.alloc (.cells #[.int .i64 p.op, .int .i64 p.nt, .slice B p.kids.length d2] 45) := ⟨_, rfl⟩
            have G7 : BlkIs w7' g21 45 #[.int .i64 p.op, .int .i64 p.nt, .slice B p.kids.length d2] := by rw [hw7]; exact BlkIs.fresh_at hg.out.symm
            have HO7 : Hid (Own w7' w.heap.size (fun g => w.heap.size ≤ g) 47 6 (.slice Av dn dv) (done.map encR)) := Lib.hid (by rw [hw7]; exact HO6.out.alloc _)
            have HR7 : Hid (Rep w7' (fun k => gw ≤ k) (encP p) [.int .i64 p.op, .int .i64 p.nt, .slice B p.kids.length d2]) := Lib.hid (by rw [hw7]; exact HR6.out.alloc _)
            have hbw7 : Below w.heap.size w w7' := by rw [hw7]; exact hb06.alloc hb06.size _
            have c7 : w7'.cell? ⟨w5.heap.size, 0, none⟩ = some (.string ⟨rr.toArray⟩) := by rw [hw7]; exact cell_later (below_alloc _ _) c6
            have hl7 : w5.heap.size < w7'.heap.size := by rw [hw7]; simp; omega
            have hg21 : gw ≤ g21 := by rw [← hg.out, ← hgw.out]; omega
            rw [hg.out, ← hw7]
            clear hw7 HO6 HR6 c6
            have hnt := fun W => ntW_any a W
            obtain ⟨nv, hnv⟩ : ∃ x, Hid (ntT a = x) := ⟨_, Lib.hid rfl⟩
            rw [hnv.out] at hnt
            by_cases hrr : rr = []
            · subst hrr
              by_cases hnv0 : 0 ≤ nv
              · have hrq : readQ a c en f = some ⟨nv, p, x, f⟩ := by unfold readQ; rw [hN, hrd]; simp only; rw [hnv.out, if_pos ⟨trivial, hnv0⟩]
                rw [hrq] at hrow
                have hX2 : X = (linesQ fg (dn + 1) rest).map fun l => (done ++ [⟨nv, p, x, f⟩]) ++ l := by
                  rw [hX, hrow]
                  simp only [h96, if_true, ne_eq, not_false_eq_true, and_self]
                  cases linesQ fg (dn + 1) rest <;> simp
                have HX2 := Lib.hid hX2
                have hnvn : ¬ nv < 0 := by omega
                clear hX hrow hX2 hrq
                go_wp2_with fail
                refine (hnt _).mono ?_
                rintro e w7 ⟨rfl, hb77⟩
                have G7 := G7.below hb77 G7.lt
                have HO7 := Lib.hid (HO7.out.below hb77)
                have HR7 := Lib.hid (HR7.out.below hb77)
                have hbw7 : Below w.heap.size w w7 := hbw7.trans (hb77.mono hbw7.size)
                have hdl := hdlen
                clear c7 hb77 hl7
                go_upto_region 17 with fail
                obtain ⟨v, hv⟩ : ∃ x, Hid (Value.slice Av dn dv = x) := ⟨_, Lib.hid rfl⟩
                rw [hv.out] at HO7 hfar ⊢
                refine anyJ_begin 9 (fun W => BlkIs W g21 45 #[.int .i64 p.op, .int .i64 p.nt, .slice B p.kids.length d2]) (by kernel_rfl) (G7.drew) (fun hHeld => ?_)
                refine take (i := 0) (d := some 109) (v := v) (by kernel_rfl) rfl rfl rfl (fun _ _ _ h => h) hHeld (fun W hSw => by go_simp) ?_
                simp only [Act.put, List.setIfInBounds_toArray, List.set_cons_zero, List.set_cons_succ]
                refine take (i := 1) (d := some 110) (v := .string ⟨a.toArray⟩) (by kernel_rfl) rfl rfl rfl (fun _ _ _ h => h) hHeld (fun W hSw => by go_simp) ?_
                simp only [Act.put, List.setIfInBounds_toArray, List.set_cons_zero, List.set_cons_succ]
                refine take (i := 3) (d := some 112) (v := .agg #[.int .i64 p.op, .int .i64 p.nt, .slice B p.kids.length d2]) (by kernel_rfl) rfl rfl rfl (fun _ _ _ h => h) hHeld (fun W hSw => by have x0 : W.cell? ⟨g21, 0, none⟩ = some (.int .i64 p.op) := BlkIs.cell hSw 0; have x1 : W.cell? ⟨g21, 1, none⟩ = some (.int .i64 p.nt) := BlkIs.cell hSw 1; have x2 : W.cell? ⟨g21, 2, none⟩ = some (.slice B p.kids.length d2) := BlkIs.cell hSw 2; go_simp) ?_
                simp only [Act.put, List.setIfInBounds_toArray, List.set_cons_zero, List.set_cons_succ]
                refine take (i := 4) (d := some 113) (v := .int .i64 x) (by kernel_rfl) rfl rfl rfl (fun _ _ _ h => h) hHeld (fun W hSw => by go_simp) ?_
                simp only [Act.put, List.setIfInBounds_toArray, List.set_cons_zero, List.set_cons_succ]
                refine take (i := 5) (d := some 114) (v := .string ⟨f.toArray⟩) (by kernel_rfl) rfl rfl rfl (fun _ _ _ h => h) hHeld (fun W hSw => by go_simp) ?_
                simp only [Act.put, List.setIfInBounds_toArray, List.set_cons_zero, List.set_cons_succ]
                refine anyJ_only (i := 2) (d := some 111) (by kernel_rfl) rfl rfl rfl (fun K' hK => ?_)
                refine wp_go_call 36 _ _ rfl #[.string ⟨a.toArray⟩] rfl (fun W => by go_simp) (hnt _) (fun e w8 he => ?_)
                obtain ⟨rfl, hb8⟩ := he
                have G8 : BlkIs w8 g21 45 #[.int .i64 p.op, .int .i64 p.nt, .slice B p.kids.length d2] := BlkIs.below G7.drew hb8 (G7.drew).lt
                have O8 := (HO7.out.drew).below hb8
                have R8 : Rep w8 (fun k => gw ≤ k) (encP p) [.int .i64 p.op, .int .i64 p.nt, .slice B p.kids.length d2] := (HR7.out.drew).below hb8
                have hb78 : Below w.heap.size w w8 := hbw7.drew.trans (hb8.mono hbw7.size)
                have hb78z := hb78.size
                have hvf : ∀ q, w7.heap.size ≤ q → some q ≠ v.ownBlock := fun q hq => HO7.out.ne_far hq
                have hvw : ∀ q, gw ≤ q → some q ≠ v.ownBlock := fun q hq => hfar q hq
                have hz8 : w7.heap.size ≤ w8.heap.size := hb8.size
                refine ⟨_, rfl, hK.out _ _ (fun _ => G8) (fun hHeld => ?_)⟩
                have hHeld := hHeld (by decide)
                simp only [Act.put, List.setIfInBounds_toArray, List.set_cons_zero, List.set_cons_succ]
                refine take (i := 6) (d := some 115) (v := .agg #[.int .i64 nv, .int .i64 p.op, .int .i64 p.nt, .slice B p.kids.length d2, .int .i64 x, .string ⟨f.toArray⟩]) (by kernel_rfl) rfl rfl rfl (fun _ _ _ h => h) hHeld (fun W hSw => by go_simp) ?_
                simp only [Act.put, List.setIfInBounds_toArray, List.set_cons_zero, List.set_cons_succ]
                refine anyJ_only (i := 7) (d := some 116) (by kernel_rfl) rfl rfl rfl (fun K' hK => ?_)
                have O9 := O8.alloc (.cells #[.int .i64 nv, .int .i64 p.op, .int .i64 p.nt, .slice B p.kids.length d2, .int .i64 x, .string ⟨f.toArray⟩] 47)
                have R9 := R8.alloc (.cells #[.int .i64 nv, .int .i64 p.op, .int .i64 p.nt, .slice B p.kids.length d2, .int .i64 x, .string ⟨f.toArray⟩] 47)
                refine wp_val (w' := w8.alloc (.cells #[.int .i64 nv, .int .i64 p.op, .int .i64 p.nt, .slice B p.kids.length d2, .int .i64 x, .string ⟨f.toArray⟩] 47)) (v := .slice (some ⟨w8.heap.size, 0, none⟩) 1 1) (by go_simp) (hK.out _ _ (fun _ => G8.alloc _) (fun hHeld => ?_))
                have hHeld := hHeld (by decide)
                simp only [Act.put, List.setIfInBounds_toArray, List.set_cons_zero, List.set_cons_succ]
                refine anyJ_only (i := 8) (d := some 117) (by kernel_rfl) rfl rfl rfl (fun K' hK => ?_)
                refine wp_append_one (.tmp 109) (.tmp 116) 28 47 6 72 _ rfl Tryz.underlying28 rule_info rfl (by decide) (by decide) w.heap.size (fun g => w.heap.size ≤ g) v _ rfl w8.heap.size rfl O9 [.int .i64 nv, .int .i64 p.op, .int .i64 p.nt, .slice B p.kids.length d2, .int .i64 x, .string ⟨f.toArray⟩] (encR ⟨nv, p, x, f⟩) (BlkIs.fresh _ _ _) rfl (by simp [Value.oneCell']) ((rep_rule_of (r := ⟨nv, p, x, f⟩) R9).imp (fun q hq _ => ⟨by omega, hvw q hq⟩)) hdl (by simp; omega) (fun v9 w9 own9 hb9 hk9 => ?_)
                refine hK.out _ _ (fun _ => (hk9 g21 (hvw g21 hg21) (hHeld.lt)).trans hHeld) (fun hHeld => ?_)
                have hHeld := hHeld (by decide)
                simp only [Act.put, List.setIfInBounds_toArray, List.set_cons_zero, List.set_cons_succ]
                refine anyJ_only (i := 9) (d := some 4) (by kernel_rfl) rfl rfl rfl (fun K' hK => ?_)
                refine wp_val (w' := w9) (v := v9) (by go_simp) (hK.out _ _ (fun h => absurd rfl h) (fun _ => ?_))
                simp only [Act.put, List.setIfInBounds_toArray, List.set_cons_zero, List.set_cons_succ]
                refine anyJ_done (by kernel_rfl) ?_ _
                go_wp2_with fail
                go_roundw
                case rel => exact ⟨rest, done ++ [⟨nv, p, x, f⟩], fg, rfl, by omega, by simp [hdn.out]; omega, Lib.hid (by rw [HX2.out]; simp [hdn.out]), Lib.hid (by rw [List.map_append]; exact own9), (hb78.alloc hb78.size _).trans hb9⟩
                case measure => simp [ByteArray.size]; omega
              · have hXn : X = none := by rw [hX, hrow]; simp [readQ, hN, hrd, hnv.out, hnv0]
                have hnvn : nv < 0 := by omega
                subst hXn
                simp only at hR2
                obtain rfl : R = none := hR2.symm
                go_wp2_with fail
                refine (hnt _).mono ?_
                rintro e w7 ⟨rfl, hb77⟩
                go_wp2_with fail
                refine bodyPost_ret (v := .tuple #[.slice none 0 0, .bool false]) (by simp [results, Tryz.results13, go_sem]) rfl ?_
                exact ⟨hbw7.trans (hb77.mono hbw7.size), rfl⟩
            · have hXn : X = none := by rw [hX, hrow]; simp [readQ, hN, hrd, hrr]
              have hE : (rr == []) = false := by simpa using hrr
              have hE2 : (rr != []) = true := by simpa using hrr
              clear hrr hX hrow hnt
              subst hXn
              simp only at hR2
              obtain rfl : R = none := hR2.symm
              go_wp2_with fail
              refine bodyPost_ret (v := .tuple #[.slice none 0 0, .bool false]) (by simp [results, Tryz.results13, go_sem]) rfl ?_
              exact ⟨hbw7, rfl⟩

end

/- Plain: what the program reads is the text of what it makes of it. -/
section
open Go.RowKit

theorem opT_text {s : List UInt8} (h : opT s ≠ 0) : opWords.getD ((opT s).toNat - 1) [] = s := by
  unfold opT at *
  cases hi : idxT opWords s with
  | none => rw [hi] at h; exact absurd rfl h
  | some k =>
    unfold idxT at hi
    have hk := List.findIdx?_eq_some_iff_findIdx_eq.mp hi
    have hw : opWords[k]'hk.1 = s := by
      have := List.findIdx?_eq_some_iff_getElem.mp hi
      simpa using this.2.1
    show opWords.getD ((((k + 1 : Nat) : Int)).toNat - 1) [] = s
    rw [Int.toNat_natCast, Nat.add_sub_cancel, List.getD_eq_getElem?_getD, List.getElem?_eq_getElem hk.1]
    exact hw
theorem named_text {s : List UInt8} (h : namedB s = true) : ntWords.getD (namedN s).toNat [] = s := by
  unfold namedB at h
  unfold namedN
  cases hi : idxT ntWords s with
  | none => rw [hi] at h; cases h
  | some k =>
    unfold idxT at hi
    have hk := List.findIdx?_eq_some_iff_findIdx_eq.mp hi
    have hw : ntWords[k]'hk.1 = s := by
      have := List.findIdx?_eq_some_iff_getElem.mp hi
      simpa using this.2.1
    show ntWords.getD ((k : Nat) : Int).toNat [] = s
    rw [Int.toNat_natCast, List.getD_eq_getElem?_getD, List.getElem?_eq_getElem hk.1]
    exact hw
theorem ahead_cut {b s : List UInt8} (h : aheadB b s = true) : s = b ++ s.drop b.length := by
  unfold aheadB at h
  have h1 : s.take b.length = b := by simpa using h
  have h2 := List.take_append_drop b.length s
  rw [h1] at h2
  exact h2.symm
theorem cutT_join {s b x y : List UInt8} (h : cutT s b = some (x, y)) : s = x ++ (b ++ y) := by
  unfold cutT at h
  cases hf : (List.range (s.length + 1)).find? (hitAt s b) with
  | none => rw [hf] at h; cases h
  | some i =>
    have hi := List.find?_some hf
    rw [hf] at h
    injection h with h
    injection h with h1 h2
    subst h1 h2
    unfold hitAt at hi
    rw [Bool.and_eq_true, beq_iff_eq] at hi
    have h3 := List.take_append_drop i s
    have h4 := List.take_append_drop b.length (s.drop i)
    rw [hi.2, List.drop_drop] at h4
    rw [h4]
    exact h3.symm

def SoundD (rd : List UInt8 → Option (Pat × List UInt8)) : Prop := ∀ s p s2, rd s = some (p, s2) → s = patText p ++ s2
theorem rdDK_sound {rd : List UInt8 → Option (Pat × List UInt8)} (h : SoundD rd) : ∀ (n i : Nat) (s : List UInt8) (ps : List Pat) (s3 : List UInt8), rdDK rd n i s = some (ps, s3) → s = kidsText ps i ++ s3
  | 0, i, s, ps, s3, e => by
    unfold rdDK at e
    injection e with e
    injection e with e1 e2
    subst e1 e2
    simp [kidsText]
  | n + 1, i, s, ps, s3, e => by
    unfold rdDK at e
    split at e
    · rename_i hah
      have hs := ahead_cut hah
      cases hr : rd (s.drop (byT i).length) with
      | none => rw [hr] at e; cases e
      | some r =>
        obtain ⟨p, s2⟩ := r
        have h1 := h _ _ _ hr
        rw [hr] at e
        simp only at e
        cases hk : rdDK rd n (i + 1) s2 with
        | none => rw [hk] at e; cases e
        | some r =>
          obtain ⟨qs, sa⟩ := r
          have h2 := rdDK_sound h n (i + 1) s2 _ _ hk
          rw [hk] at e
          injection e with e
          injection e with e1 e2
          subst e1 e2
          rw [hs, h1, h2, kidsText]
          unfold byT
          simp
    · cases e
theorem rdD0_sound {rd : List UInt8 → Option (Pat × List UInt8)} (h : SoundD rd) (z : Bool) : SoundD (rdD0 rd z) := by
  intro s p s2 e
  have hw := List.take_append_drop (wordLen s) s
  unfold rdD0 at e
  split at e
  · rename_i hn
    injection e with e
    injection e with e1 e2
    subst e1 e2
    rw [patText, if_pos rfl, named_text hn]
    exact hw.symm
  · split at e
    · cases e
    · rename_i hno
      have hop : opT (s.take (wordLen s)) ≠ 0 := fun h => hno (.inl h)
      cases hk : rdDK rd (arityOf (opT (s.take (wordLen s)))).toNat 0 (s.drop (wordLen s)) with
      | none => rw [hk] at e; cases e
      | some r =>
        obtain ⟨ps, sa⟩ := r
        have h2 := rdDK_sound h _ _ _ _ _ hk
        rw [hk] at e
        simp only at e
        unfold finD at e
        have ht := opT_text hop
        split at e
        · rename_i h0
          injection e with e
          injection e with e1 e2
          subst e1 e2
          rw [patText, if_neg hop, ht, if_pos h0, List.append_nil, List.append_assoc, ← h2]
          exact hw.symm
        · rename_i h0
          split at e
          · rename_i hah
            have hc := ahead_cut hah
            injection e with e
            injection e with e1 e2
            subst e1 e2
            rw [patText, if_neg hop, ht, if_neg h0]
            simp only [List.append_assoc]
            rw [show ([41] : List UInt8) ++ sa.drop 1 = sa from hc.symm, ← h2]
            exact hw.symm
          · cases e
theorem rdD_sound : ∀ l, SoundD (rdD l)
  | 0 => rdD0_sound (fun _ _ _ h => by cases h) true
  | l + 1 => rdD0_sound (rdD_sound l) false

theorem lineD_sound {s : List UInt8} {r : Rule} (h : lineD s = some r) : s ++ [10] = lineT r := by
  unfold lineD at h
  cases h1 : cutT s arrowT with
  | none => rw [h1] at h; cases h
  | some q =>
    obtain ⟨left, right⟩ := q
    have e1 := cutT_join h1
    rw [h1] at h
    simp only at h
    split at h
    · rename_i hn
      have hnt := named_text hn
      cases h2 : cutT right colonT with
      | none => rw [h2] at h; cases h
      | some q =>
        obtain ⟨pat, en⟩ := q
        have e2 := cutT_join h2
        rw [h2] at h
        simp only at h
        unfold patD at h
        cases h3 : rdD 8 pat with
        | none => rw [h3] at h; cases h
        | some q =>
          obtain ⟨p, rest⟩ := q
          have e3 := rdD_sound 8 _ _ _ h3
          rw [h3] at h
          simp only at h
          split at h
          · rename_i hr
            rw [hr, List.append_nil] at e3
            unfold costD at h
            cases h4 : cutT en [32] with
            | none => rw [h4] at h; cases h
            | some q =>
              obtain ⟨cost, form⟩ := q
              have e4 := cutT_join h4
              rw [h4] at h
              simp only at h
              rcases atoi_parse cost with ⟨v, hv, _, hd, _⟩ | ⟨hv, _⟩
              · rw [hv] at h
                injection h with h
                subst h
                unfold lineT
                simp only
                rw [hnt, ← e3, hd, e1, e2, e4]
                simp [arrowT, colonT]
              · rw [hv] at h; cases h
          · cases h
    · cases h
theorem linesD_sound : ∀ (f : Nat) (s : List UInt8) (l : List Rule), linesD f s = some l → s = rulesT l
  | 0, s, l, h => by
    unfold linesD at h
    split at h
    · rename_i hs
      injection h with h; subst h; rw [hs]; rfl
    · cases h
  | f + 1, s, l, h => by
    unfold linesD at h
    split at h
    · rename_i hs
      injection h with h; subst h; rw [hs]; rfl
    · cases h1 : cutT s [10] with
      | none => rw [h1] at h; cases h
      | some q =>
        obtain ⟨first, rest⟩ := q
        have e1 := cutT_join h1
        rw [h1] at h
        simp only at h
        cases h2 : lineD first with
        | none => rw [h2] at h; cases h
        | some r =>
          have e2 := lineD_sound h2
          rw [h2] at h
          simp only at h
          cases h3 : linesD f rest with
          | none => rw [h3] at h; cases h
          | some l2 =>
            have e3 := linesD_sound f rest l2 h3
            rw [h3] at h
            injection h with h
            subst h
            rw [e1, rulesT, ← e2, ← e3]
            simp
theorem parseD_sound {s : List UInt8} {l : List Rule} (h : parseD s = some l) : s.length ≤ 16000 ∧ mayRs l = true ∧ rulesT l = s := by
  unfold parseD at h
  split at h
  · cases h
  · rename_i hb
    cases h1 : linesD s.length s with
    | none => rw [h1] at h; cases h
    | some l2 =>
      have e1 := linesD_sound _ _ _ h1
      rw [h1] at h
      simp only at h
      split at h
      · rename_i hm
        injection h with h
        subst h
        exact ⟨by omega, hm, e1.symm⟩
      · cases h

end

/- Plain: a pattern's text is read as the pattern, by both. -/
section
open Go.RowKit

def HeadNo (s : List UInt8) : Prop := ∀ h : 0 < s.length, isLd s[0] = false
theorem wordLen_app {w rest : List UInt8} (hw : ∀ c ∈ w, isLd c = true) (hr : HeadNo rest) : wordLen (w ++ rest) = w.length :=
  wordLen_eq _ _ (by simp) (fun j h hj => by rw [List.getElem_append_left hj]; exact hw _ (List.getElem_mem _)) (fun h => by
    rw [List.getElem_append_right (Nat.le_refl _)]
    have h2 := hr (by simpa using h)
    simpa using h2)
theorem ntWords_ld : ∀ w ∈ ntWords, ∀ c ∈ w, isLd c = true := by decide
theorem opWords_ld : (opWords.all fun w => w.all isLd) = true := by kernel_rfl
theorem nt_facts : ((List.range 4).all fun k => namedB (ntWords.getD k []) && (namedN (ntWords.getD k []) == (k : Int)) && (ntT (ntWords.getD k []) == (k : Int))) = true := by kernel_rfl
theorem op_facts : ((List.range 36).all fun o => (opT (opWords.getD o []) == ((o + 1 : Nat) : Int)) && !(namedB (opWords.getD o [])) && decide (ntT (opWords.getD o []) < 0)) = true := by kernel_rfl
theorem nt_word {k : Nat} (h : k < 4) : namedB (ntWords.getD k []) = true ∧ namedN (ntWords.getD k []) = k ∧ ntT (ntWords.getD k []) = k ∧ ∀ c ∈ ntWords.getD k [], isLd c = true := by
  have h1 := List.all_eq_true.1 nt_facts k (by simpa using h)
  simp only [Bool.and_eq_true, beq_iff_eq] at h1
  refine ⟨h1.1.1, h1.1.2, h1.2, ?_⟩
  have hk : k < ntWords.length := h
  rw [List.getD_eq_getElem?_getD, List.getElem?_eq_getElem hk]
  exact ntWords_ld _ (List.getElem_mem _)
theorem op_word {o : Nat} (h : o < 36) : opT (opWords.getD o []) = ((o + 1 : Nat) : Int) ∧ namedB (opWords.getD o []) = false ∧ ntT (opWords.getD o []) < 0 ∧ ∀ c ∈ opWords.getD o [], isLd c = true := by
  have h1 := List.all_eq_true.1 op_facts o (by simpa using h)
  simp only [Bool.and_eq_true, beq_iff_eq, Bool.not_eq_true', decide_eq_true_eq] at h1
  refine ⟨h1.1.1, h1.1.2, h1.2, ?_⟩
  cases hk : opWords[o]? with
  | none => rw [List.getD_eq_getElem?_getD, hk]; simp
  | some w =>
    rw [List.getD_eq_getElem?_getD, hk]
    exact List.all_eq_true.1 (List.all_eq_true.1 opWords_ld w (List.mem_of_getElem? hk))
theorem ahead_app (b s : List UInt8) : aheadB b (b ++ s) = true := by
  unfold aheadB
  simp
theorem starts_app (b s : List UInt8) : startsB (b ++ s) b = true := by
  unfold startsB
  simp
theorem kids_head (ps : List Pat) (i : Nat) {rest : List UInt8} (hr : HeadNo rest) : HeadNo (kidsText ps i ++ rest) := by
  cases ps with
  | nil => simpa [kidsText] using hr
  | cons p ps =>
    intro h
    by_cases hi : i = 0
    · simp only [kidsText, if_pos hi, List.cons_append, List.getElem_cons_zero]; decide
    · simp only [kidsText, if_neg hi, List.cons_append, List.getElem_cons_zero]; decide
theorem head41 (s : List UInt8) : HeadNo ([41] ++ s) := by
  intro h
  simp only [List.singleton_append, List.getElem_cons_zero]; decide

def ReadsD (l : Nat) : Prop := ∀ (p : Pat) (rest : List UInt8), patOk p = true → patN p ≤ l → HeadNo rest → rdD l (patText p ++ rest) = some (p, rest)
theorem rdDK_reads {l : Nat} (h : ReadsD l) : ∀ (ps : List Pat) (i : Nat) (rest : List UInt8), patsOk ps = true → patsN ps ≤ l → HeadNo rest → rdDK (rdD l) ps.length i (kidsText ps i ++ rest) = some (ps, rest)
  | [], i, rest, _, _, _ => by simp [rdDK, kidsText]
  | p :: ps, i, rest, hok, hn, hr => by
    unfold patsOk at hok
    rw [Bool.and_eq_true] at hok
    unfold patsN at hn
    have e : kidsText (p :: ps) i ++ rest = byT i ++ (patText p ++ (kidsText ps (i + 1) ++ rest)) := by
      rw [kidsText]
      unfold byT
      simp
    rw [e, List.length_cons, rdDK, if_pos (ahead_app _ _), List.drop_left, h p _ hok.1 (by omega) (kids_head ps (i + 1) hr)]
    simp only
    rw [rdDK_reads h ps (i + 1) rest hok.2 (by omega) hr]
theorem rdD_reads : ∀ l, ReadsD l
  | 0 => fun p _ _ hn _ => absurd (patN_pos p) (by omega)
  | l + 1 => by
    intro p rest hok hn hr
    cases p with
    | mk op nt ks =>
    unfold patOk at hok
    unfold patN at hn
    rw [patText]
    show rdD0 (rdD l) false _ = _
    unfold rdD0
    by_cases h0 : op = 0
    · subst h0
      rw [if_pos rfl] at hok
      rw [if_pos rfl]
      rw [Bool.and_eq_true] at hok
      obtain ⟨k, hk4, rfl⟩ : ∃ k : Nat, k < 4 ∧ nt = k := by
        have := hok.1
        unfold isNt at this
        simp at this
        exact ⟨nt.toNat, by omega, by omega⟩
      obtain rfl : ks = [] := by simpa using hok.2
      rw [Int.toNat_natCast]
      obtain ⟨f1, f2, _, f4⟩ := nt_word hk4
      rw [wordLen_app f4 hr, List.take_left, List.drop_left, if_pos f1, f2]
    · rw [if_neg h0] at hok
      rw [if_neg h0]
      rw [Bool.and_eq_true, Bool.and_eq_true, Bool.and_eq_true] at hok
      obtain ⟨⟨⟨h1, h2⟩, h3⟩, h4⟩ := hok
      obtain ⟨o, ho, rfl⟩ : ∃ o : Nat, o < 36 ∧ op = ((o + 1 : Nat) : Int) := by
        unfold isOp at h1
        simp at h1
        exact ⟨op.toNat - 1, by omega, by omega⟩
      obtain rfl : nt = 0 := by simpa using h2
      have h3 : (ks.length : Int) = arityOf ((o + 1 : Nat) : Int) := by simpa using h3
      obtain ⟨f1, f2, _, f4⟩ := op_word ho
      rw [show (((o + 1 : Nat) : Int)).toNat - 1 = o by omega]
      simp only [List.append_assoc]
      have hhead : HeadNo (kidsText ks 0 ++ ((if ks.length = 0 then [] else [41]) ++ rest)) := kids_head _ _ (by
        split
        · exact hr
        · exact head41 _)
      rw [wordLen_app f4 hhead, List.take_left, List.drop_left, f1, f2, if_neg (by decide), if_neg (by intro h; rcases h with h | h; omega; cases h), ← h3, Int.toNat_natCast]
      by_cases hk0 : ks.length = 0
      · obtain rfl : ks = [] := List.eq_nil_of_length_eq_zero hk0
        simp [rdDK, kidsText, finD]
      · rw [if_neg hk0, rdDK_reads (rdD_reads l) ks 0 _ h4 (by omega) (head41 _)]
        simp only
        unfold finD
        rw [if_neg hk0, if_pos (ahead_app _ _)]
        simp

def ReadsQ (f : Nat) : Prop := ∀ (p : Pat) (rest : List UInt8) (m : Nat), patOk p = true → patN p ≤ f → m + patN p ≤ 8 → HeadNo rest → rdQ f (patText p ++ rest) m = some (p, rest, m + patN p)
theorem rdQK_reads {f : Nat} (h : ReadsQ f) : ∀ (ps : List Pat) (i : Nat) (rest : List UInt8) (m : Nat), patsOk ps = true → patsN ps ≤ f → m + patsN ps ≤ 8 → HeadNo rest → rdQK (rdQ f) ps.length i (kidsText ps i ++ rest) m = some (ps, rest, m + patsN ps)
  | [], i, rest, m, _, _, _, _ => by simp [rdQK, kidsText, patsN]
  | p :: ps, i, rest, m, hok, hn, hm, hr => by
    unfold patsOk at hok
    rw [Bool.and_eq_true] at hok
    unfold patsN at hn hm
    have e : kidsText (p :: ps) i ++ rest = byT i ++ (patText p ++ (kidsText ps (i + 1) ++ rest)) := by
      rw [kidsText]
      unfold byT
      simp
    rw [e, List.length_cons, rdQK, if_pos (starts_app _ _), List.drop_left, h p _ m hok.1 (by omega) (by omega) (kids_head ps (i + 1) hr)]
    simp only
    rw [rdQK_reads h ps (i + 1) rest (m + patN p) hok.2 (by omega) (by omega) hr, patsN, Nat.add_assoc]
theorem rdQ_reads : ∀ f, ReadsQ f
  | 0 => fun p _ _ _ hn _ _ => absurd (patN_pos p) (by omega)
  | f + 1 => by
    intro p rest m hok hn hm hr
    cases p with
    | mk op nt ks =>
    unfold patOk at hok
    unfold patN at hn hm ⊢
    rw [patText]
    unfold rdQ
    by_cases h0 : op = 0
    · subst h0
      rw [if_pos rfl] at hok
      rw [if_pos rfl]
      rw [Bool.and_eq_true] at hok
      obtain ⟨k, hk4, rfl⟩ : ∃ k : Nat, k < 4 ∧ nt = k := by
        have := hok.1
        unfold isNt at this
        simp at this
        exact ⟨nt.toNat, by omega, by omega⟩
      obtain rfl : ks = [] := by simpa using hok.2
      rw [Int.toNat_natCast]
      obtain ⟨_, _, f3, f4⟩ := nt_word hk4
      rw [wordLen_app f4 hr, List.take_left, List.drop_left, f3, if_pos (by omega), if_pos (by omega)]
      simp [patsN]
    · rw [if_neg h0] at hok
      rw [if_neg h0]
      rw [Bool.and_eq_true, Bool.and_eq_true, Bool.and_eq_true] at hok
      obtain ⟨⟨⟨h1, h2⟩, h3⟩, h4⟩ := hok
      obtain ⟨o, ho, rfl⟩ : ∃ o : Nat, o < 36 ∧ op = ((o + 1 : Nat) : Int) := by
        unfold isOp at h1
        simp at h1
        exact ⟨op.toNat - 1, by omega, by omega⟩
      obtain rfl : nt = 0 := by simpa using h2
      have h3 : (ks.length : Int) = arityOf ((o + 1 : Nat) : Int) := by simpa using h3
      obtain ⟨f1, _, f3, f4⟩ := op_word ho
      rw [show (((o + 1 : Nat) : Int)).toNat - 1 = o by omega]
      simp only [List.append_assoc]
      have hhead : HeadNo (kidsText ks 0 ++ ((if ks.length = 0 then [] else [41]) ++ rest)) := kids_head _ _ (by
        split
        · exact hr
        · exact head41 _)
      rw [wordLen_app f4 hhead, List.take_left, List.drop_left, if_neg (by omega), f1, if_neg (by intro h; rcases h with h | h <;> omega), ← h3, Int.toNat_natCast]
      by_cases hk0 : ks.length = 0
      · obtain rfl : ks = [] := List.eq_nil_of_length_eq_zero hk0
        simp [rdQK, kidsText, finQ, patsN]
      · rw [if_neg hk0, rdQK_reads (rdQ_reads f) ks 0 _ (m + 1) h4 (by omega) (by omega) (head41 _)]
        simp only
        unfold finQ
        rw [if_neg hk0, if_pos (starts_app _ _)]
        simp [Nat.add_assoc]

end

/- Plain: a text is rules by the program just if it is by the reference. -/
section
open Go.RowKit

theorem hit_at (x y b : List UInt8) : hitAt (x ++ (b ++ y)) b x.length = true := by
  unfold hitAt
  simp
theorem drop_at {x : List UInt8} {j : Nat} (t : List UInt8) (hj : j < x.length) : (x ++ t).drop j = x[j] :: (x.drop (j + 1) ++ t) := by
  rw [List.drop_append_of_le_length (by omega), List.drop_eq_getElem_cons hj]; rfl
theorem cut_at1 {x y b : List UInt8} {c : UInt8} (hx : ∀ d ∈ x, d ≠ c) : cutT (x ++ ((c :: b) ++ y)) (c :: b) = some (x, y) := by
  rw [cut_some (k := x.length) (hit_at x y (c :: b)) (fun j hj => by
    unfold hitAt
    rw [Bool.and_eq_false_iff]
    right
    rw [drop_at _ hj, beq_eq_false_iff_ne]
    intro e
    rw [List.length_cons, List.take_succ_cons] at e
    injection e with e1 _
    exact hx _ (List.getElem_mem hj) e1)]
  rw [List.take_left, ← List.drop_drop, List.drop_left, List.drop_left]
theorem cut_at2 {x y b : List UInt8} {c0 c1 : UInt8} (hne : c0 ≠ c1) (hx : ∀ d ∈ x, d ≠ c1) : cutT (x ++ ((c0 :: c1 :: b) ++ y)) (c0 :: c1 :: b) = some (x, y) := by
  rw [cut_some (k := x.length) (hit_at x y (c0 :: c1 :: b)) (fun j hj => by
    unfold hitAt
    rw [Bool.and_eq_false_iff]
    right
    rw [drop_at _ hj, beq_eq_false_iff_ne]
    intro e
    rw [List.length_cons, List.length_cons, List.take_succ_cons] at e
    injection e with _ e1
    by_cases hj1 : j + 1 < x.length
    · rw [List.drop_eq_getElem_cons hj1, List.cons_append, List.take_succ_cons] at e1
      injection e1 with e2 _
      exact hx _ (List.getElem_mem hj1) e2
    · rw [List.drop_eq_nil_of_le (by omega), List.nil_append, List.cons_append, List.take_succ_cons] at e1
      injection e1 with e2 _
      exact hne e2)]
  rw [List.take_left, ← List.drop_drop, List.drop_left, List.drop_left]

/-! The letters of a line. -/
def txtC (c : UInt8) : Prop := isLd c = true ∨ c = 40 ∨ c = 41 ∨ c = 44 ∨ c = 32
mutual
theorem patText_chars : ∀ p : Pat, patOk p = true → ∀ c ∈ patText p, txtC c
  | .mk op nt ks, hok, c, hc => by
    unfold patOk at hok
    rw [patText] at hc
    by_cases h0 : op = 0
    · rw [if_pos h0] at hok hc
      rw [Bool.and_eq_true] at hok
      obtain ⟨k, hk4, rfl⟩ : ∃ k : Nat, k < 4 ∧ nt = k := by
        have := hok.1
        unfold isNt at this
        simp at this
        exact ⟨nt.toNat, by omega, by omega⟩
      rw [Int.toNat_natCast] at hc
      exact .inl ((nt_word hk4).2.2.2 c hc)
    · rw [if_neg h0] at hok hc
      rw [Bool.and_eq_true, Bool.and_eq_true, Bool.and_eq_true] at hok
      obtain ⟨⟨⟨h1, h2⟩, h3⟩, h4⟩ := hok
      obtain ⟨o, ho, rfl⟩ : ∃ o : Nat, o < 36 ∧ op = ((o + 1 : Nat) : Int) := by
        unfold isOp at h1
        simp at h1
        exact ⟨op.toNat - 1, by omega, by omega⟩
      rw [show (((o + 1 : Nat) : Int)).toNat - 1 = o by omega] at hc
      rcases List.mem_append.1 hc with hc | hc
      · exact .inl ((op_word ho).2.2.2 c hc)
      · rcases List.mem_append.1 hc with hc | hc
        · exact kidsText_chars ks 0 h4 c hc
        · split at hc
          · cases hc
          · simp at hc; exact .inr (.inr (.inl hc))
theorem kidsText_chars : ∀ (ps : List Pat) (i : Nat), patsOk ps = true → ∀ c ∈ kidsText ps i, txtC c
  | [], _, _, c, hc => by simp [kidsText] at hc
  | p :: ps, i, hok, c, hc => by
    unfold patsOk at hok
    rw [Bool.and_eq_true] at hok
    rw [kidsText] at hc
    rcases List.mem_append.1 hc with hc | hc
    · split at hc
      · simp at hc; exact .inr (.inl hc)
      · simp at hc
        rcases hc with hc | hc
        · exact .inr (.inr (.inr (.inl hc)))
        · exact .inr (.inr (.inr (.inr hc)))
    · rcases List.mem_append.1 hc with hc | hc
      · exact patText_chars p hok.1 c hc
      · exact kidsText_chars ps (i + 1) hok.2 c hc
end
theorem ld_ne {c : UInt8} (h : isLd c = true) (d : UInt8) (hd : isLd d = false) : c ≠ d := by
  intro e; subst e; rw [h] at hd; cases hd
theorem txt_ne {c : UInt8} (h : txtC c) : c ≠ 58 ∧ c ≠ 10 := by
  rcases h with h | rfl | rfl | rfl | rfl
  · exact ⟨ld_ne h 58 (by decide), ld_ne h 10 (by decide)⟩
  all_goals decide
theorem dec_ld {n : Int} (h : 0 ≤ n) : ∀ c ∈ decT n, isLd c = true := by
  unfold decT
  rw [if_neg (by omega)]
  intro c hc
  have h1 := List.all_eq_true.1 (digs_all n.natAbs) c (by simpa using hc)
  have h2 := (isDg_iff c).1 h1
  unfold isLd
  simp
  omega

/-! A line of a rule that may be. -/
def line0 (r : Rule) : List UInt8 := ntWords.getD r.nt.toNat [] ++ (arrowT ++ (patText r.pat ++ (colonT ++ (decT r.cost ++ ([32] ++ r.form)))))
theorem lineT_0 (r : Rule) : lineT r = line0 r ++ [10] := by
  unfold lineT line0 arrowT colonT
  simp
theorem ok_parts {r : Rule} (h : okRule r = true) : (∃ k : Nat, k < 4 ∧ r.nt = k) ∧ patOk r.pat = true ∧ patN r.pat ≤ 8 ∧ 0 ≤ r.cost ∧ r.cost ≤ 65535 ∧ ∀ c ∈ r.form, isLd c = true := by
  unfold okRule fitP isNt formB at h
  simp at h
  obtain ⟨h1, ⟨h2, h3⟩, h4, h5, h6⟩ := h
  refine ⟨⟨r.nt.toNat, by omega, by omega⟩, h2, by omega, h4, h5, ?_⟩
  first | exact h6.1.1 | exact h6.1
theorem line_cuts {r : Rule} (h : okRule r = true) : cutT (line0 r) arrowT = some (ntWords.getD r.nt.toNat [], patText r.pat ++ (colonT ++ (decT r.cost ++ ([32] ++ r.form)))) ∧ cutT (patText r.pat ++ (colonT ++ (decT r.cost ++ ([32] ++ r.form)))) colonT = some (patText r.pat, decT r.cost ++ ([32] ++ r.form)) ∧ cutT (decT r.cost ++ ([32] ++ r.form)) [32] = some (decT r.cost, r.form) ∧ ∀ c ∈ line0 r, c ≠ 10 := by
  obtain ⟨⟨k, hk, hnt⟩, h2, h3, h4, h5, h6⟩ := ok_parts h
  have hw := (nt_word hk).2.2.2
  refine ⟨?_, ?_, ?_, ?_⟩
  · unfold line0 arrowT
    exact cut_at1 (fun d hd => by rw [hnt, Int.toNat_natCast] at hd; exact ld_ne (hw d hd) 32 (by decide))
  · unfold colonT
    exact cut_at2 (by decide) (fun d hd => (txt_ne (patText_chars _ h2 d hd)).1)
  · exact cut_at1 (fun d hd => ld_ne (dec_ld h4 d hd) 32 (by decide))
  · intro c hc
    unfold line0 at hc
    rcases List.mem_append.1 hc with hc | hc
    · rw [hnt, Int.toNat_natCast] at hc; exact ld_ne (hw c hc) 10 (by decide)
    rcases List.mem_append.1 hc with hc | hc
    · have : ∀ d ∈ arrowT, d ≠ 10 := by decide
      exact this c hc
    rcases List.mem_append.1 hc with hc | hc
    · exact (txt_ne (patText_chars _ h2 c hc)).2
    rcases List.mem_append.1 hc with hc | hc
    · have : ∀ d ∈ colonT, d ≠ 10 := by decide
      exact this c hc
    rcases List.mem_append.1 hc with hc | hc
    · exact ld_ne (dec_ld h4 c hc) 10 (by decide)
    rcases List.mem_append.1 hc with hc | hc
    · simp at hc; subst hc; decide
    · exact ld_ne (h6 c hc) 10 (by decide)
theorem headNil : HeadNo [] := fun h => absurd h (by simp)
theorem lineD_reads {r : Rule} (h : okRule r = true) : lineD (line0 r) = some r := by
  obtain ⟨c1, c2, c3, _⟩ := line_cuts h
  obtain ⟨⟨k, hk, hnt⟩, h2, h3, h4, h5, h6⟩ := ok_parts h
  obtain ⟨f1, f2, _, _⟩ := nt_word hk
  unfold lineD
  rw [c1]
  simp only
  rw [hnt, Int.toNat_natCast, if_pos f1, c2]
  simp only
  unfold patD
  have hp := rdD_reads 8 r.pat [] h2 h3 headNil
  rw [List.append_nil] at hp
  rw [hp]
  simp only
  rw [if_pos trivial]
  unfold costD
  rw [c3]
  simp only
  rw [num_dec _ ⟨by omega, by omega⟩]
  simp only
  rw [f2, ← hnt]
theorem rowQ_reads {r : Rule} (h : okRule r = true) : rowQ (line0 r) = some r := by
  obtain ⟨c1, c2, c3, _⟩ := line_cuts h
  obtain ⟨⟨k, hk, hnt⟩, h2, h3, h4, h5, h6⟩ := ok_parts h
  obtain ⟨_, _, f3, _⟩ := nt_word hk
  have q1 : cutQ (line0 r) arrowT = (ntWords.getD r.nt.toNat [], patText r.pat ++ (colonT ++ (decT r.cost ++ ([32] ++ r.form))), true) := by unfold cutQ; rw [c1]
  have q2 : cutQ (patText r.pat ++ (colonT ++ (decT r.cost ++ ([32] ++ r.form)))) colonT = (patText r.pat, decT r.cost ++ ([32] ++ r.form), true) := by unfold cutQ; rw [c2]
  have q3 : cutQ (decT r.cost ++ ([32] ++ r.form)) [32] = (decT r.cost, r.form, true) := by unfold cutQ; rw [c3]
  have hl : (decT r.cost).length ≤ 6 := by
    unfold decT
    rw [if_neg (by omega)]
    have := digs_len 5 r.cost.natAbs (by omega) (by omega)
    simpa using Nat.le_trans this (by omega)
  unfold rowQ
  rw [q1]
  simp only
  rw [q2]
  simp only
  rw [q3]
  simp only
  rw [if_pos ⟨trivial, trivial, trivial, hl⟩]
  unfold readQ
  rw [num_dec _ ⟨by omega, by omega⟩]
  simp only
  have hp := rdQ_reads 9 r.pat [] 0 h2 (by omega) (by omega) headNil
  rw [List.append_nil] at hp
  rw [hp]
  simp only
  rw [hnt, Int.toNat_natCast, f3, if_pos ⟨trivial, by omega⟩, ← hnt]

theorem text_cut {r : Rule} (h : okRule r = true) (t : List UInt8) : cutT (lineT r ++ t) [10] = some (line0 r, t) := by
  rw [lineT_0, List.append_assoc]
  exact cut_at1 (line_cuts h).2.2.2
theorem linesD_reads : ∀ (l : List Rule) (f : Nat), (∀ r ∈ l, okRule r = true) → l.length ≤ f → linesD f (rulesT l) = some l
  | [], f, _, _ => by rw [rulesT]; exact linesD_nil f
  | r :: l, f, h, hf => by
    have hr := h r (by simp)
    rw [List.length_cons] at hf
    cases f with
    | zero => omega
    | succ g =>
      have hne : rulesT (r :: l) ≠ [] := by
        rw [rulesT, lineT_0]; simp
      rw [linesD, if_neg hne, rulesT, text_cut hr]
      simp only
      rw [lineD_reads hr]
      simp only
      rw [linesD_reads l g (fun q hq => h q (by simp [hq])) (by omega)]
      rfl
theorem linesQ_reads : ∀ (l : List Rule) (f c : Nat), (∀ r ∈ l, okRule r = true) → l.length ≤ f → c + l.length ≤ 96 → linesQ f c (rulesT l) = some l
  | [], f, c, _, _, _ => by rw [rulesT]; exact linesQ_nil f c
  | r :: l, f, c, h, hf, hc => by
    have hr := h r (by simp)
    rw [List.length_cons] at hf hc
    cases f with
    | zero => omega
    | succ g =>
      have hne : rulesT (r :: l) ≠ [] := by
        rw [rulesT, lineT_0]; simp
      have q : cutQ (lineT r ++ rulesT l) [10] = (line0 r, rulesT l, true) := by unfold cutQ; rw [text_cut hr]
      rw [linesQ, if_neg hne, rulesT, q]
      simp only
      rw [if_pos ⟨trivial, by omega⟩, rowQ_reads hr]
      simp only
      rw [linesQ_reads l g (c + 1) (fun q hq => h q (by simp [hq])) (by omega) (by omega)]
      rfl
theorem rulesT_count : ∀ l : List Rule, l.length ≤ (rulesT l).length
  | [] => by simp
  | r :: l => by
    have := rulesT_count l
    rw [rulesT, lineT_0]
    simp; omega
theorem may_parts {l : List Rule} (h : mayRs l = true) : (∀ r ∈ l, okRule r = true) ∧ l.length ≤ 96 := by
  unfold mayRs at h
  rw [Bool.and_eq_true, decide_eq_true_eq] at h
  exact ⟨List.all_eq_true.1 h.1, h.2⟩
theorem parseD_iff (s : List UInt8) (l : List Rule) : parseD s = some l ↔ s.length ≤ 16000 ∧ mayRs l = true ∧ rulesT l = s := by
  refine ⟨parseD_sound, ?_⟩
  rintro ⟨h1, h2, rfl⟩
  obtain ⟨h3, h4⟩ := may_parts h2
  unfold parseD
  rw [if_neg (by omega), linesD_reads l _ h3 (rulesT_count l)]
  simp only
  rw [if_pos h2]
theorem parseQ_iff (s : List UInt8) (l : List Rule) : parseQ s = some l ↔ s.length ≤ 16000 ∧ mayRs l = true ∧ rulesT l = s := by
  constructor
  · intro h
    unfold parseQ at h
    split at h
    · cases h
    · rename_i hb
      cases h1 : linesQ s.length 0 s with
      | none => rw [h1] at h; cases h
      | some l2 =>
        rw [h1] at h
        simp only at h
        split at h
        · rename_i hm
          injection h with h
          subst h
          exact ⟨by omega, hm.1, hm.2⟩
        · cases h
  · rintro ⟨h1, h2, rfl⟩
    obtain ⟨h3, h4⟩ := may_parts h2
    unfold parseQ
    rw [if_neg (by omega), linesQ_reads l _ 0 h3 (rulesT_count l) (by omega)]
    simp only
    rw [if_pos ⟨h2, trivial⟩]
theorem parse_same (s : List UInt8) : parseD s = parseQ s := by
  refine Option.ext fun l => ?_
  rw [parseD_iff, parseQ_iff]

end

end Go.Proofs.YthdicdkgfmiepaaGreatDoor
