/- The law at some shapes of texts: what the evaluator says. -/
import Derived.Test.YtjpgogmnabkgnaaGreatMsW
namespace Go.Proofs.YtjpgogmnabkgnaaGreat
open Go.RowKit Go.Proofs.YtjpgogmnabkgnaaGreat.Ev
set_option maxRecDepth 100000

def Ms1_s : Shq := ⟨1, ⟨11, 23, 25, 20, 22, 3⟩⟩
def Ms1_S10 : List (Nat × AV) := [(2, (.str 0 0)), (3, .nils), (4, (.sym .i64 (.lin 0 [(0, 1)]))), (5, (.sym .i64 (.lin 0 [(1, 1)]))), (6, (.sym .i64 (.lin 0 [(2, 1)]))), (8, MsS0), (9, (.ssl 18 0 (avs []))), (10, (.sym .i64 (.var 5))), (11, (.sym .i64 (.var 4)))]
def Ms1_So10 : List (Nat × AV) := [(2, (.str 0 0)), (3, .nils), (4, (.sym .i64 (.lin 0 [(0, 1)]))), (5, (.sym .i64 (.lin 0 [(1, 1)]))), (6, (.sym .i64 (.lin 0 [(2, 1)]))), (8, MsS0), (9, (.ssl 19 1 (avs []))), (10, (.sym .i64 (.var 7))), (44, (.sym .i64 (.lin 0 [(0, 1)]))), (45, (.bool false))]
def Ms1_m10 : HL := ⟨[MsO0], 19⟩
def Ms1_mo10 : HL := ⟨[MsO1], 20⟩
def Ms1_kp10 : List Nat := []
def Ms1_i0_10 : List (Nat × Nat) := idL Ms1_kp10 ++ []
def Ms1_iI_10 : List (Nat × Nat) := idL Ms1_kp10 ++ [(19, 19)]
def Ms1_iA_10 : List (Nat × Nat) := idL Ms1_kp10 ++ [(18, 20)]
def Ms1_iB_10 : List (Nat × Nat) := idL Ms1_kp10 ++ [(18, 18)]
def Ms1_iC_10 : List (Nat × Nat) := idL Ms1_kp10 ++ [(18, 18)]
def Ms1_iD_10 : List (Nat × Nat) := idL Ms1_kp10 ++ [(18, 20)]
def Ms1_iE_10 : List (Nat × Nat) := idL Ms1_kp10 ++ [(19, 18)]
theorem Ms1_wA10 [InW] (hs : InQ Ms1_s) (d : SD) (hd : d.Bd) (he : EqsQ Ms1_s d (aks wLaw true false false)) (hl : LtsQ Ms1_s d (askT true)) : RunS hs hd (aks wLaw true false false) (askT true) he hl 10 Ms1_S10 Ms1_m10 (roundB (sqW Ms1_s.k.cA wLaw.tA true Ms1_iA_10) Ms1_kp10 Ms1_S10 Ms1_m10) := by unfold RunS; kernel_rfl
theorem Ms1_wB10 [InW] (hs : InQ Ms1_s) (d : SD) (hd : d.Bd) (he : EqsQ Ms1_s d (aks wLaw false true false)) (hl : LtsQ Ms1_s d (askT true)) : RunS hs hd (aks wLaw false true false) (askT true) he hl 10 Ms1_S10 Ms1_m10 (roundB (sqW Ms1_s.k.cB wLaw.tB false Ms1_iB_10) Ms1_kp10 Ms1_S10 Ms1_m10) := by unfold RunS; kernel_rfl
theorem Ms1_wC10 [InW] (hs : InQ Ms1_s) (d : SD) (hd : d.Bd) (he : EqsQ Ms1_s d (aks wLaw false false true)) (hl : LtsQ Ms1_s d (askT true)) : RunS hs hd (aks wLaw false false true) (askT true) he hl 10 Ms1_S10 Ms1_m10 (roundB (sqW Ms1_s.k.cC wLaw.tC false Ms1_iC_10) Ms1_kp10 Ms1_S10 Ms1_m10) := by unfold RunS; kernel_rfl
theorem Ms1_wD10 [InW] (hs : InQ Ms1_s) (d : SD) (hd : d.Bd) (he : EqsQ Ms1_s d (aks wLaw false false false)) (hl : LtsQ Ms1_s d (askT true)) : RunS hs hd (aks wLaw false false false) (askT true) he hl 10 Ms1_S10 Ms1_m10 (roundB (sqW Ms1_s.k.cD wLaw.tD true Ms1_iD_10) Ms1_kp10 Ms1_S10 Ms1_m10) := by unfold RunS; kernel_rfl
theorem Ms1_wE10 [InW] (hs : InQ Ms1_s) (d : SD) (hd : d.Bd) (he : EqsQ Ms1_s d []) (hl : LtsQ Ms1_s d (askT false)) : RunS hs hd [] (askT false) he hl 10 Ms1_S10 Ms1_m10 (endB (sqE Ms1_s.k Ms1_iE_10) Ms1_kp10 Ms1_m10 Ms1_So10 Ms1_mo10 (.exit 0)) := by unfold RunS; kernel_rfl
theorem Ms1_lp10 [InW] (hs : InQ Ms1_s) : @SoundC (env1 Ms1_s) Tryz.prog Keep.none (ntmOf Tryz.prog 10) (.loop (bodyOf Tryz.prog 10)) (ovC (sq0 Ms1_s.k (tFi 1) Ms1_i0_10) (sqI Ms1_iI_10) Ms1_kp10 Ms1_S10 Ms1_m10 (.exit 0) Ms1_So10 Ms1_mo10) :=
  switch_known hs 10 (y := wLaw) (t0 := (tFi 1)) (by intro h; cases h) (wLaw_ok _) (by have h := tFi_den hs (SD.at0 Ms1_s.k); have h1 := hs.nd; have h2 := InW.fi_rng; rw [show (tFi 1) = tFi Ms1_s.nd from rfl, h]; have e : (Ms1_s.nd : Nat) = 1 := rfl; rw [e] at h1; omega) (Ms1_wA10 hs) (Ms1_wB10 hs) (Ms1_wC10 hs) (Ms1_wD10 hs) (Ms1_wE10 hs)
def Ms1_S147 : List (Nat × AV) := [(0, (.ptr 62561 0)), (3, (.ptr 62790 0)), (4, (nu 0)), (5, (.ptr 62804 0)), (6, (.ptr 62805 0)), (8, (.bool true))]
def Ms1_So147 : List (Nat × AV) := [(0, (.ptr 62561 0)), (3, (.ptr 62790 0)), (4, (nu 0)), (5, (.ptr 62804 0)), (6, (.ptr 62805 0)), (8, (.bool true)), (9, (.bool false)), (10, (.bool true)), (45, (.bool true)), (46, (.tup (avs [(.bool false), (.bool true)]))), (47, (.ptr 62561 0)), (48, (.agg (avs [(nu 22), (nu 5), (nu 0), (nu 0), (.str 0 0), (nu 0), (.sl 58160 0 2 8 false), (nu 44)]))), (49, (.tup (avs [(.bool false), (.bool true)]))), (50, (.bool false)), (51, (.bool true)), (52, (.bool true)), (53, (.bool false)), (54, (.bool false)), (55, (.bool true))]
def Ms1_m147 : HL := ⟨[MsO2, MsO3, MsO4, MsO5, MsO6, MsO7, MsO8, MsO9, MsO10, MsO11, MsO12, MsO13, MsO14, MsO15, MsO16, MsO17, MsO18, MsO19, MsO20, MsO21, MsO22, MsO23, MsO24, MsO25, MsO26, MsO27, MsO28, MsO29, MsO30, MsO31, MsO32, MsO33, MsO34, MsO35, MsO36, MsO37, MsO38, MsO39, MsO40, MsO41], 62931⟩
def Ms1_mo147 : HL := ⟨[MsO2, MsO3, MsO4, MsO5, MsO6, MsO7, MsO8, MsO9, MsO10, MsO11, MsO12, MsO13, MsO14, MsO15, MsO16, MsO17, MsO18, MsO19, MsO20, MsO21, MsO22, MsO23, MsO24, MsO25, MsO26, MsO27, MsO28, MsO29, MsO30, MsO42, MsO32, MsO43, MsO44, MsO35, MsO36, MsO37, MsO38, MsO39, MsO40, MsO45], 62932⟩
def Ms1_kp147 : List Nat := [58127, 58145, 58160, 58170, 58172, 58197, 58204, 58211, 58213, 58237, 58239, 58267, 58269, 58292, 58294, 58322, 58324, 58326, 58328, 58341, 58343, 58345, 58347, 58360, 58362, 58372, 58374, 58376, 58601, 62561, 62563, 62573, 62594, 62602, 62604, 62607, 62790, 62804, 62805]
def Ms1_i0_147 : List (Nat × Nat) := idL Ms1_kp147 ++ []
def Ms1_iI_147 : List (Nat × Nat) := idL Ms1_kp147 ++ [(62931, 62931)]
def Ms1_iA_147 : List (Nat × Nat) := idL Ms1_kp147 ++ [(62930, 63897)]
def Ms1_iB_147 : List (Nat × Nat) := idL Ms1_kp147 ++ [(62930, 62930)]
def Ms1_iC_147 : List (Nat × Nat) := idL Ms1_kp147 ++ [(62930, 62930)]
def Ms1_iD_147 : List (Nat × Nat) := idL Ms1_kp147 ++ [(62930, 64191)]
def Ms1_iE_147 : List (Nat × Nat) := idL Ms1_kp147 ++ [(62931, 62930)]
theorem Ms1_wA147 [InW] (hs : InQ Ms1_s) (d : SD) (hd : d.Bd) (he : EqsQ Ms1_s d (aks wModel true false false)) (hl : LtsQ Ms1_s d (askT true)) : RunS hs hd (aks wModel true false false) (askT true) he hl 147 Ms1_S147 Ms1_m147 (roundB (sqW Ms1_s.k.cA wModel.tA true Ms1_iA_147) Ms1_kp147 Ms1_S147 Ms1_m147) := by unfold RunS; kernel_rfl
theorem Ms1_wB147 [InW] (hs : InQ Ms1_s) (d : SD) (hd : d.Bd) (he : EqsQ Ms1_s d (aks wModel false true false)) (hl : LtsQ Ms1_s d (askT true)) : RunS hs hd (aks wModel false true false) (askT true) he hl 147 Ms1_S147 Ms1_m147 (roundB (sqW Ms1_s.k.cB wModel.tB false Ms1_iB_147) Ms1_kp147 Ms1_S147 Ms1_m147) := by unfold RunS; kernel_rfl
theorem Ms1_wC147 [InW] (hs : InQ Ms1_s) (d : SD) (hd : d.Bd) (he : EqsQ Ms1_s d (aks wModel false false true)) (hl : LtsQ Ms1_s d (askT true)) : RunS hs hd (aks wModel false false true) (askT true) he hl 147 Ms1_S147 Ms1_m147 (roundB (sqW Ms1_s.k.cC wModel.tC false Ms1_iC_147) Ms1_kp147 Ms1_S147 Ms1_m147) := by unfold RunS; kernel_rfl
theorem Ms1_wD147 [InW] (hs : InQ Ms1_s) (d : SD) (hd : d.Bd) (he : EqsQ Ms1_s d (aks wModel false false false)) (hl : LtsQ Ms1_s d (askT true)) : RunS hs hd (aks wModel false false false) (askT true) he hl 147 Ms1_S147 Ms1_m147 (roundB (sqW Ms1_s.k.cD wModel.tD true Ms1_iD_147) Ms1_kp147 Ms1_S147 Ms1_m147) := by unfold RunS; kernel_rfl
theorem Ms1_wE147 [InW] (hs : InQ Ms1_s) (d : SD) (hd : d.Bd) (he : EqsQ Ms1_s d []) (hl : LtsQ Ms1_s d (askT false)) : RunS hs hd [] (askT false) he hl 147 Ms1_S147 Ms1_m147 (endB (sqE Ms1_s.k Ms1_iE_147) Ms1_kp147 Ms1_m147 Ms1_So147 Ms1_mo147 .ret) := by unfold RunS; kernel_rfl
theorem Ms1_lp147 [InW] (hs : InQ Ms1_s) : @SoundC (env1 Ms1_s) Tryz.prog Keep.none (ntmOf Tryz.prog 147) (.loop (bodyOf Tryz.prog 147)) (ovC (sq0 Ms1_s.k (tFi 1) Ms1_i0_147) (sqI Ms1_iI_147) Ms1_kp147 Ms1_S147 Ms1_m147 .ret Ms1_So147 Ms1_mo147) :=
  switch_known hs 147 (y := wModel) (t0 := (tFi 1)) (by intro h; cases h) (wModel_ok _) (by have h := tFi_den hs (SD.at0 Ms1_s.k); have h1 := hs.nd; have h2 := InW.fi_rng; rw [show (tFi 1) = tFi Ms1_s.nd from rfl, h]; have e : (Ms1_s.nd : Nat) = 1 := rfl; rw [e] at h1; omega) (Ms1_wA147 hs) (Ms1_wB147 hs) (Ms1_wC147 hs) (Ms1_wD147 hs) (Ms1_wE147 hs)
def Ms1_E0 : Ent := ⟨10, (.cons (.agg (avs [(.sym .i64 (.var 10)), (.sym .i64 (.var 11)), (.sym .i64 (.var 12)), (.sym .i64 (.var 13))])) .nil), ⟨[], 1⟩, (.tup (avs [MsS0, (.ssl 21 1 (avs [(.sym .i64 (.var 7))]))])), ⟨[MsO46], 22⟩⟩
theorem Ms1_T0 [InW] (hs : InQ Ms1_s) : @Ent.checkX (envT hs) Tryz.prog (ovC (sq0 Ms1_s.k (tFi 1) Ms1_i0_10) (sqI Ms1_iI_10) Ms1_kp10 Ms1_S10 Ms1_m10 (.exit 0) Ms1_So10 Ms1_mo10) (@knownS (envT hs) 1 []) [] 990 Ms1_E0 = true := by kernel_rfl
theorem Ms1_K0 [InW] (hs : InQ Ms1_s) : @Ent.Ok (env1 Ms1_s) Tryz.prog Keep.none Ms1_E0 :=
  @Ent.ok_ofX Tryz.prog Keep.none (envT hs) mixed (@knownS (envT hs) 1 []) (knownS_ok hs (SD.at0_bd hs.k) noPadsS) [] tabNilS 990 (ovC (sq0 Ms1_s.k (tFi 1) Ms1_i0_10) (sqI Ms1_iI_10) Ms1_kp10 Ms1_S10 Ms1_m10 (.exit 0) Ms1_So10 Ms1_mo10) Ms1_E0 (@hov_of Tryz.prog Keep.none (env1 Ms1_s) 10 _ (by kernel_rfl) (Ms1_lp10 hs)) (Ms1_T0 hs)
def Ms1_E1 : Ent := ⟨37, (.cons MsS0 .nil), ⟨[], 25⟩, (.tup (avs [(.sl 51534 0 89 4 false), (.agg (avs [(nu 0), (nu 0)]))])), ⟨[MsO47], 51535⟩⟩
theorem Ms1_T1 [InW] (hs : InQ Ms1_s) : @Ent.check (envT hs) Tryz.prog (@knownS (envT hs) 1 []) [] 990 Ms1_E1 = true := by kernel_rfl
theorem Ms1_K1 [InW] (hs : InQ Ms1_s) : @Ent.Ok (env1 Ms1_s) Tryz.prog Keep.none Ms1_E1 :=
  @Ent.ok_of Tryz.prog Keep.none (envT hs) mixed (@knownS (envT hs) 1 []) (knownS_ok hs (SD.at0_bd hs.k) noPadsS) [] tabNilS 990 Ms1_E1 (Ms1_T1 hs)
def Ms1_E2 : Ent := ⟨24, (.cons MsS0 .nil), ⟨[], 23⟩, (.tup (avs [(.agg (avs [.nils, (.sl 58103 0 1 8 false)])), (.agg (avs [(nu 0), (nu 0)]))])), ⟨[MsO48, MsO49, MsO50, MsO51, MsO52, MsO53, MsO54, MsO55, MsO56, MsO57, MsO58, MsO59, MsO60, MsO61, MsO62, MsO63, MsO64, MsO65, MsO66, MsO67, MsO68, MsO69, MsO70, MsO71, MsO72, MsO73, MsO74, MsO75], 58104⟩⟩
theorem Ms1_T2 [InW] (hs : InQ Ms1_s) : @Ent.check (envT hs) Tryz.prog (@knownS (envT hs) 1 []) [(37, [Ms1_E1])] 990 Ms1_E2 = true := by kernel_rfl
theorem Ms1_K2 [InW] (hs : InQ Ms1_s) : @Ent.Ok (env1 Ms1_s) Tryz.prog Keep.none Ms1_E2 :=
  @Ent.ok_of Tryz.prog Keep.none (envT hs) mixed (@knownS (envT hs) 1 []) (knownS_ok hs (SD.at0_bd hs.k) noPadsS) [(37, [Ms1_E1])] (@Tab.ok_cons Tryz.prog Keep.none (envT hs) 37 _ _ (@Ent.ok_cons Tryz.prog Keep.none (envT hs) _ _ (Ms1_K1 hs) (@Ent.ok_nil Tryz.prog Keep.none (envT hs))) tabNilS) 990 Ms1_E2 (Ms1_T2 hs)
def Ms1_E3 : Ent := ⟨15, (.cons MsS0 .nil), ⟨[], 22⟩, (.tup (avs [(.agg (avs [.nils, (.sl 58376 0 1 8 false)])), (.bool true)])), ⟨[MsO2, MsO3, MsO4, MsO5, MsO6, MsO7, MsO8, MsO9, MsO10, MsO11, MsO12, MsO13, MsO14, MsO15, MsO16, MsO17, MsO18, MsO76, MsO20, MsO21, MsO22, MsO77, MsO24, MsO25, MsO26, MsO27, MsO28, MsO29, MsO78], 60264⟩⟩
theorem Ms1_T3 [InW] (hs : InQ Ms1_s) : @Ent.check (envT hs) Tryz.prog (@knownS (envT hs) 1 []) [(24, [Ms1_E2])] 990 Ms1_E3 = true := by kernel_rfl
theorem Ms1_K3 [InW] (hs : InQ Ms1_s) : @Ent.Ok (env1 Ms1_s) Tryz.prog Keep.none Ms1_E3 :=
  @Ent.ok_of Tryz.prog Keep.none (envT hs) mixed (@knownS (envT hs) 1 []) (knownS_ok hs (SD.at0_bd hs.k) noPadsS) [(24, [Ms1_E2])] (@Tab.ok_cons Tryz.prog Keep.none (envT hs) 24 _ _ (@Ent.ok_cons Tryz.prog Keep.none (envT hs) _ _ (Ms1_K2 hs) (@Ent.ok_nil Tryz.prog Keep.none (envT hs))) tabNilS) 990 Ms1_E3 (Ms1_T3 hs)
def Ms1_E4 : Ent := ⟨147, (.cons (.ptr 62561 0) (.cons (.agg (avs [(nu 7), (.sl 58172 0 3 8 false), (.sl 58347 0 1 9 false), (nu 0), (nu 0), (nu 0), (.str 0 0), (nu 0), (nu 35)])) .nil)), ⟨[MsO2, MsO3, MsO4, MsO5, MsO6, MsO7, MsO8, MsO9, MsO10, MsO11, MsO12, MsO13, MsO14, MsO15, MsO16, MsO17, MsO18, MsO76, MsO20, MsO21, MsO22, MsO77, MsO24, MsO25, MsO26, MsO27, MsO28, MsO29, MsO78, MsO79, MsO32, MsO80, MsO81, MsO82, MsO83, MsO37], 62790⟩, (nu 0), ⟨[MsO2, MsO3, MsO4, MsO5, MsO6, MsO7, MsO8, MsO9, MsO10, MsO11, MsO12, MsO13, MsO14, MsO15, MsO16, MsO17, MsO18, MsO19, MsO20, MsO21, MsO22, MsO23, MsO24, MsO25, MsO26, MsO27, MsO28, MsO29, MsO30, MsO42, MsO32, MsO43, MsO44, MsO35, MsO36, MsO37, MsO45], 62932⟩⟩
theorem Ms1_T4 [InW] (hs : InQ Ms1_s) : @Ent.checkX (envT hs) Tryz.prog (ovC (sq0 Ms1_s.k (tFi 1) Ms1_i0_147) (sqI Ms1_iI_147) Ms1_kp147 Ms1_S147 Ms1_m147 .ret Ms1_So147 Ms1_mo147) (@knownS (envT hs) 1 []) [] 990 Ms1_E4 = true := by kernel_rfl
theorem Ms1_K4 [InW] (hs : InQ Ms1_s) : @Ent.Ok (env1 Ms1_s) Tryz.prog Keep.none Ms1_E4 :=
  @Ent.ok_ofX Tryz.prog Keep.none (envT hs) mixed (@knownS (envT hs) 1 []) (knownS_ok hs (SD.at0_bd hs.k) noPadsS) [] tabNilS 990 (ovC (sq0 Ms1_s.k (tFi 1) Ms1_i0_147) (sqI Ms1_iI_147) Ms1_kp147 Ms1_S147 Ms1_m147 .ret Ms1_So147 Ms1_mo147) Ms1_E4 (@hov_of Tryz.prog Keep.none (env1 Ms1_s) 147 _ (by kernel_rfl) (Ms1_lp147 hs)) (Ms1_T4 hs)
theorem Ms1_law [InW] (hs : InQ Ms1_s) : okB (@callT (envT hs) Tryz.prog (@knownS (envT hs) 1 MsPads) [(10, [Ms1_E0]), (15, [Ms1_E3]), (147, [Ms1_E4])] 1000 4 (.cons (.agg (.cons (.sym .i64 (.var 10)) (.cons (.sym .i64 (.var 11)) (.cons (.sym .i64 (.var 12)) (.cons (.sym .i64 (.var 13)) .nil))))) .nil) ⟨.nil, 0⟩) = true := by kernel_rfl
theorem Ms1_calls [InW] (h0 : InW.fi ≤ 9) (W : World) : Calls Tryz.prog 4 #[.agg #[.int .i64 InW.f0, .int .i64 InW.f1, .int .i64 InW.f2, .int .i64 InW.f3]] W fun e w' => e = .returned (.bool true) ∧ Below W.heap.size W w' := by
  have hs : InQ Ms1_s := ⟨.inl ⟨rfl, h0⟩, ⟨⟨by decide, by decide⟩, ⟨by decide, by decide⟩, ⟨by decide, by decide⟩, ⟨by decide, by decide⟩, ⟨by decide, by decide⟩, ⟨by decide, by decide⟩⟩⟩
  exact @closed_law (envT hs) Tryz.prog mixed Keep.none (@knownS (envT hs) 1 MsPads) (knownS_ok hs (SD.at0_bd hs.k) (Ms_pads hs)) [(10, [Ms1_E0]), (15, [Ms1_E3]), (147, [Ms1_E4])] (@Tab.ok_cons Tryz.prog Keep.none (envT hs) 10 _ _ (@Ent.ok_cons Tryz.prog Keep.none (envT hs) _ _ (Ms1_K0 hs) (@Ent.ok_nil Tryz.prog Keep.none (envT hs))) (@Tab.ok_cons Tryz.prog Keep.none (envT hs) 15 _ _ (@Ent.ok_cons Tryz.prog Keep.none (envT hs) _ _ (Ms1_K3 hs) (@Ent.ok_nil Tryz.prog Keep.none (envT hs))) (@Tab.ok_cons Tryz.prog Keep.none (envT hs) 147 _ _ (@Ent.ok_cons Tryz.prog Keep.none (envT hs) _ _ (Ms1_K4 hs) (@Ent.ok_nil Tryz.prog Keep.none (envT hs))) tabNilS))) _ _ _ (Ms1_law hs) _ four_inS W trivial
end Go.Proofs.YtjpgogmnabkgnaaGreat
