/- Plain functions for the Go functions that the law FnExactMergeMarks reaches, and for each the proof that the call answers as the plain function says; printed by a program of this session. -/
import Derived.Test.YtcmafemdcikmfaaQFnExactMergeMarksx0
import Derived.Test.YtcmafemdcikmfaaQFnExactMergeMarksx6
namespace Go.Proofs.Ytcmafemdcikmfaa.QFnExactMergeMarks
open Go.RowKit Go.Proofs.YtcmafemdcikmfaaW.PrintWords Go.Proofs.YtcmafemdcikmfaaW.PrintLast Go.Proofs.YtcmafemdcikmfaaW.PrintMore
attribute [local go_sem] max2_int min2_int max_two min_two max_three min_three max_four min_four   -- for this text's walks alone
set_option linter.unusedVariables false
set_option linter.unusedSimpArgs false

/-! ### impl_Mark_57: function 57 -/
theorem run_copy_rowK {P : Program} (w : World) (dT sT ty elem : TypeId) (g o dLen dCap : Nat) (a : Addr) (sLen sCap : Nat) (cur : Array Value) (t : TypeId) (cs : List Value) (sz N : Nat) (i : TypeInfo)
  (hu : P.underlying dT = some (.slice elem)) (hq : P.info? elem = some i) (hi : i.size = sz)
  (hg : w.heap[g]? = some (.cells cur t (0, 0))) (hN : Nat.min sLen dLen = N) (hn : cs.length = N * sz)
  (hsrc : ∀ j v, cs[j]? = some v → w.cell? (a.add j) = some v) (hfit : o + cs.length ≤ cur.size) (h1 : ∀ v ∈ cs, v.oneCell' = true) :
  (Builtin.copy_ #[dT, sT] ty #[.slice (some ⟨g, o, none⟩) dLen dCap, .slice (some a) sLen sCap]).run P w =
   .ok (goInt N) (w.setRow g (cur.toList.take o ++ cs ++ cur.toList.drop (o + cs.length)).toArray) := by
 have hl := run_loadCells_list (P := P) w a cs hsrc; have hst := run_storeCells_at (P := P) g o t cs 0 cur w hg (by simpa using hfit) h1; simp [Builtin.copy_, run_underlying hu, Builtin.lenOf, Builtin.firstCells, sizeOf, typeInfo, hq, hi, hN, ← hn, hl, hst]

set_option maxHeartbeats 4000000 in
set_option maxRecDepth 100000 in
theorem insert_room (g g2 n c i m vc : Nat) (cur : Array Value) (cs vs : List Value) (w : World) (hi : i < n) (hm : 0 < m) (hroom : n + m ≤ c) (hc63 : c ≤ 9223372036854775807) (hne : g2 ≠ g)
  (hcl : cs.length = n * 5) (hvl : vs.length = m * 5) (hg : w.heap[g]? = some (.cells cur 25 (0, 0))) (hcz : cur.size = c * 5) (hcs : cur.toList.take (n * 5) = cs)
  (cur2 : Array Value) (hg2 : w.heap[g2]? = some (.cells cur2 25 (0, 0))) (hvs : cur2.toList.take (m * 5) = vs) (h1c : ∀ v ∈ cs, v.oneCell' = true) (h1v : ∀ v ∈ vs, v.oneCell' = true) :
  Calls Try.prog 57 #[.slice (some ⟨g, 0, none⟩) n c, .int .i64 i, .slice (some ⟨g2, 0, none⟩) m vc] w fun e w' =>
   e = .returned (.slice (some ⟨g, 0, none⟩) (n + m) c) ∧ ∃ C1 C2 : Array Value, C1 = (cur.toList.take ((i + m) * 5) ++ cs.drop (i * 5) ++ cur.toList.drop ((i + m) * 5 + (cs.drop (i * 5)).length)).toArray ∧
    C2 = (C1.toList.take (i * 5) ++ vs ++ C1.toList.drop (i * 5 + vs.length)).toArray ∧ w' = (w.drew.setRow g C1).setRow g C2 := by
 obtain ⟨i0, hi0, hz0, hzs, hzb⟩ := info_parts info25; have mixed : Try.prog.follows .mixedOrders = true := by kernel_rfl
 have hz1 : ¬ ((m : Int) = 0) := by omega
 have hz2 : ¬ ((i : Int) = (n : Int)) := by omega
 have u31 : Try.prog.underlying 31 = some (.slice 25) := Try.underlying31; have z25 : ∀ w, (Go.sizeOf 25).run Try.prog w = .ok 5 w := fun w => by simp [Go.sizeOf, typeInfo, hi0, hzs]
 have hcur2 : m * 5 ≤ cur2.size := by
  have := congrArg List.length hvs; rw [List.length_take, hvl] at this; simp at this
  omega
 have hov : ∀ lb cb, (callFunc 63 #[.slice (some ⟨g2, 0, none⟩) m vc, .slice (some ⟨g, (i + m) * 5, none⟩) lb cb]).run Try.prog w = .ok (.value (.bool false)) w := fun lb cb => by
  rw [run_callFunc_extern Try.func63 (by kernel_rfl) (by kernel_rfl) (by kernel_rfl) (e := Extern.SlicesOverlaps.overlaps #[31, 31] #[4]) (by kernel_rfl),
   Lib.run_overlaps_apart w 31 4 25 u31 5 z25 ⟨g2, 0, none⟩ ⟨g, (i + m) * 5, none⟩ m vc lb cb hne 25 25 cur2.size cur.size (by simp [World.shape?, hg2]) (by simp [World.shape?, hg]) (by omega) (by simp [World.frozen?, hg2]) (by simp [World.frozen?, hg2])]
  rfl
 have hdl : (cs.drop (i * 5)).length = (n - i) * 5 := by rw [List.length_drop, hcl, Nat.sub_mul]
 have hw1 : IntKind.i64.wrap ((i : Int) + (m : Int)) = (i : Int) + (m : Int) := by rw [IntKind.wrap_i64]; omega
 have hb1 : (0 : Int) ≤ (i : Int) + (m : Int) := by omega
 have hin : i ≤ n := by omega
 have htn : ((i : Int) + (m : Int)).toNat = i + m := by omega
 have hb2 : ¬ (c = i + m) := by omega
 have hb3 : (i : Int) ≤ (n : Int) + (m : Int) := by omega
 have hb4 : ¬ (c = i) := by omega
 have hnm : n * 5 + m * 5 ≤ cur.size := by omega
 have him : (i + m) * 5 + (n - i) * 5 = n * 5 + m * 5 := by omega
 obtain ⟨C1, hC1⟩ : ∃ C1, C1 = (cur.toList.take ((i + m) * 5) ++ cs.drop (i * 5) ++ cur.toList.drop ((i + m) * 5 + (cs.drop (i * 5)).length)).toArray := ⟨_, rfl⟩
 have hcell : ∀ j v, cs[j]? = some v → w.cell? ⟨g, j, none⟩ = some v := fun j v hj => by
  rw [← hcs, List.getElem?_take] at hj; split at hj
  ·simpa [World.cell?, hg] using hj
  ·cases hj
 have hcell2 : ∀ j v, vs[j]? = some v → w.cell? ⟨g2, j, none⟩ = some v := fun j v hj => by
  rw [← hvs, List.getElem?_take] at hj; split at hj
  ·simpa [World.cell?, hg2] using hj
  ·cases hj
 have hgd : w.drew.heap[g]? = some (.cells cur 25 (0, 0)) := hg
 have hcp1 : ∀ ty dc sc, (Builtin.copy_ #[31, 31] ty #[.slice (some ⟨g, (i + m) * 5, none⟩) (n + m - (i + m)) dc, .slice (some ⟨g, i * 5, none⟩) (n + m - i) sc]).run Try.prog w.drew = .ok (goInt ((n - i : Nat) : Int)) (w.drew.setRow g C1) := fun ty dc sc => by
  have h := run_copy_rowK (P := Try.prog) w.drew 31 31 ty 25 g ((i + m) * 5) (n + m - (i + m)) dc ⟨g, i * 5, none⟩ (n + m - i) sc cur 25 (cs.drop (i * 5)) 5 (n - i) i0 u31 hi0 hzs hgd (by simp only [Nat.min_def]; split <;> omega) hdl
   (fun j v hj => by rw [Addr.add_lit]; exact hcell (i * 5 + j) v (by rwa [List.getElem?_drop] at hj)) (by rw [hdl]; omega) (fun v hv => h1c v (List.mem_of_mem_drop hv))
  rw [← hC1] at h; exact h
 have hC1s : C1.size = cur.size := by rw [hC1]; simp only [List.size_toArray, List.length_append, List.length_take, List.length_drop, hcl, Array.length_toList]; omega
 obtain ⟨C2, hC2⟩ : ∃ C2, C2 = (C1.toList.take (i * 5) ++ vs ++ C1.toList.drop (i * 5 + vs.length)).toArray := ⟨_, rfl⟩; have hg1 : (w.drew.setRow g C1).heap[g]? = some (.cells C1 25 (0, 0)) := setRow_heap _ g cur C1 25 (0, 0) hgd
 have hcp2 : ∀ ty dc, (Builtin.copy_ #[31, 31] ty #[.slice (some ⟨g, i * 5, none⟩) (n + m - i) dc, .slice (some ⟨g2, 0, none⟩) m vc]).run Try.prog (w.drew.setRow g C1) = .ok (goInt m) ((w.drew.setRow g C1).setRow g C2) := fun ty dc => by
  have h := run_copy_rowK (P := Try.prog) (w.drew.setRow g C1) 31 31 ty 25 g (i * 5) (n + m - i) dc ⟨g2, 0, none⟩ m vc C1 25 vs 5 m i0 u31 hi0 hzs hg1 (by simp only [Nat.min_def]; split <;> omega) hvl
   (fun j v hj => by
    rw [Addr.add_lit, Nat.zero_add]; have := hcell2 j v hj; simp only [World.cell?] at this ⊢; rw [show (w.drew.setRow g C1).heap[g2]? = w.heap[g2]? from setRow_other _ g g2 C1 hne]; exact this) (by rw [hvl, hC1s]; omega) h1v
  rw [← hC2] at h; exact h
 have HC1 := Aside0.mk hC1; have HC2 := Aside0.mk hC2; clear hC1 hC2 hcs hvs hcell hcell2 hgd hg1 him hnm hcz hcl hvl hcur2 hdl; go_enter Try.func57, Try.ntmps57; go_wp2_with (simp only [hov]); go_region_law_o (refine step_copy_runI rfl _ _ 31 31 rfl _ _ (by simp [Act.eval, Act.put]) (by simp [Act.eval, Act.put]) (hcp1 _ _ _) ?_)
 go_wp2_with (at_builtin; refine wpList_copy_runI _ rfl _ _ 31 31 rfl _ _ rfl rfl (hcp2 _ _) ?_); go_ret; exact ⟨rfl, C1, C2, HC1.out, HC2.out, rfl⟩
set_option maxHeartbeats 4000000 in
set_option maxRecDepth 100000 in
theorem insert_grow (g g2 n c i m vc : Nat) (cur : Array Value) (cs vs : List Value) (w : World) (hi : i < n) (hm : 0 < m) (hnc : n ≤ c) (hroom : c < n + m) (hbig : (n + m) * 40 ≤ 140737488355328)
  (hcl : cs.length = n * 5) (hvl : vs.length = m * 5) (hg : w.heap[g]? = some (.cells cur 25 (0, 0))) (hcs : cur.toList.take (n * 5) = cs)
  (cur2 : Array Value) (hg2 : w.heap[g2]? = some (.cells cur2 25 (0, 0))) (hvs : cur2.toList.take (m * 5) = vs) (h1c : ∀ v ∈ cs, v.oneCell' = true) (h1v : ∀ v ∈ vs, v.oneCell' = true) :
  Calls Try.prog 57 #[.slice (some ⟨g, 0, none⟩) n c, .int .i64 i, .slice (some ⟨g2, 0, none⟩) m vc] w fun e w' =>
   ∃ (G : Nat) (R0 R1 R2 : Array Value), e = .returned (.slice (some ⟨w.heap.size, 0, none⟩) (n + m) G) ∧ n + m ≤ G ∧ G ≤ 9223372036854775807 ∧ R0.size = G * 5 ∧ R0.toList.take (i * 5) = cs.take (i * 5) ∧
    R1 = (R0.toList.take (i * 5) ++ vs ++ R0.toList.drop (i * 5 + vs.length)).toArray ∧ R2 = (R1.toList.take ((i + m) * 5) ++ cs.drop (i * 5) ++ R1.toList.drop ((i + m) * 5 + (cs.drop (i * 5)).length)).toArray ∧
    w'.heap = (((w.alloc (.cells R0 25 (0, 0))).setRow w.heap.size R1).setRow w.heap.size R2).heap ∧ w'.os = w.os ∧ w'.tape = w.tape ∧ w'.output = w.output := by
 obtain ⟨i0, hi0, hz0, hzs, hzb⟩ := info_parts info25; have mixed : Try.prog.follows .mixedOrders = true := by kernel_rfl
 have hz1 : ¬ ((m : Int) = 0) := by omega
 have hz2 : ¬ ((i : Int) = (n : Int)) := by omega
 have hz3 : (c : Int) < (n : Int) + (m : Int) := by omega
 have u31 : Try.prog.underlying 31 = some (.slice 25) := Try.underlying31; have hkk : (n : Int) + (m : Int) - (i : Int) = ((n + m - i : Nat) : Int) := by omega
 have hik : i + (n + m - i) = n + m := by omega
 have hcell : ∀ j v, cs[j]? = some v → w.cell? ⟨g, j, none⟩ = some v := fun j v hj => by
  rw [← hcs, List.getElem?_take] at hj; split at hj
  ·simpa [World.cell?, hg] using hj
  ·cases hj
 have hcell2 : ∀ j v, vs[j]? = some v → w.cell? ⟨g2, j, none⟩ = some v := fun j v hj => by
  rw [← hvs, List.getElem?_take] at hj; split at hj
  ·simpa [World.cell?, hg2] using hj
  ·cases hj
 have hgw : g < w.heap.size := blk_lt hg; have hgw2 : g2 < w.heap.size := blk_lt hg2; have hil : (cs.take (i * 5)).length = i * 5 := by rw [List.length_take, hcl]; omega
 have hold : (Builtin.firstCells i0.size i (.slice (some ⟨g, 0, none⟩) i c)).run Try.prog w.drew = .ok (cs.take (i * 5)).toArray w.drew := by
  rw [hzs]
  exact run_firstCells_some (P := Try.prog) w.drew 5 i ⟨g, 0, none⟩ i c (cs.take (i * 5)) hil (fun j v hj => by
   rw [Addr.add_lit, Nat.zero_add]; rw [List.getElem?_take] at hj; split at hj
   ·exact hcell j v hj
   ·cases hj)
 obtain ⟨G, hG⟩ : ∃ G, G = grownCap w (n + m) c 25 := ⟨_, rfl⟩; obtain ⟨R0, hR0⟩ : ∃ R0 : Array Value, R0 = (cs.take (i * 5)).toArray ++ Builtin.zeroCells (Value.agg #[(.int .i64 0), (.int .i64 0), (.int .i64 0), (.int .i64 0), (.int .i64 0)]).cells (n + m - i) ++ Builtin.zeroCells (Value.agg #[(.int .i64 0), (.int .i64 0), (.int .i64 0), (.int .i64 0), (.int .i64 0)]).cells (G - (n + m)) := ⟨_, rfl⟩
 have hrz : ∀ ty, (Builtin.append_ #[31, 3] ty #[.slice (some ⟨g, 0, none⟩) i c, .int .i64 ((n : Int) + (m : Int) - (i : Int))]).run Try.prog w =
   .ok (.slice (some ⟨w.heap.size, 0, none⟩) (n + m) G) (w.drew.alloc (.cells R0 25)) := fun ty => by
  have h := Lib.run_append_grow_zeros (P := Try.prog) w 31 3 ty 25 i0 _ .i64 .i64 u31 Try.underlying3 hi0 hz0 (some ⟨g, 0, none⟩) i c (cs.take (i * 5)) hold (n + m - i) (by omega) (by omega) (by omega) (by omega) (by rw [hzb]; omega) (by rw [hzb, hik]; exact growslice_fits hroom hbig); rw [hik] at h; rw [hkk, hG, hR0, hG]; exact h
 have hGn : n + m ≤ G := by rw [hG]; exact grownCap_ge w _ _ _
 have hG63 : G ≤ 9223372036854775807 := by
  have := grownCap_le_maxLen w (n + m) c 25 (by unfold maxLen; omega); rw [← hG] at this; unfold maxLen at this
  omega
 have hGi : ¬ (G = i) := by omega
 have hGim : ¬ (G = i + m) := by omega
 have hci : ¬ (c = i) := by omega
 have hdl : (cs.drop (i * 5)).length = (n - i) * 5 := by rw [List.length_drop, hcl, Nat.sub_mul]
 have hR0s : R0.size = G * 5 := by
  rw [hR0]; simp only [Array.size_append, Builtin.zeroCells, Array.size_map, Array.size_range, List.size_toArray, hil, Value.cells]; simp
  omega
 have hR0t : R0.toList.take (i * 5) = cs.take (i * 5) := by
  rw [hR0]; simp only [Array.toList_append, List.append_assoc]; rw [List.take_append_of_le_length (by simp [hil]), List.take_of_length_le (by simp [hil])]
 obtain ⟨N, hN⟩ : ∃ N, N = w.heap.size := ⟨_, rfl⟩; obtain ⟨R1, hR1⟩ : ∃ R1, R1 = (R0.toList.take (i * 5) ++ vs ++ R0.toList.drop (i * 5 + vs.length)).toArray := ⟨_, rfl⟩; obtain ⟨R2, hR2⟩ : ∃ R2, R2 = (R1.toList.take ((i + m) * 5) ++ cs.drop (i * 5) ++ R1.toList.drop ((i + m) * 5 + (cs.drop (i * 5)).length)).toArray := ⟨_, rfl⟩; have hR1s : R1.size = R0.size := by rw [hR1]; simp only [List.size_toArray, List.length_append, List.length_take, List.length_drop, hvl, Array.length_toList, hR0s]; omega
 have hnewW : ∀ W : World, W.heap = (w.drew.alloc (.cells R0 25)).heap → W.heap[N]? = some (.cells R0 25 (0, 0)) := fun W hW => by
  rw [hW, hN]; exact blk_new w.drew _
 have holdW : ∀ W : World, W.heap = (w.drew.alloc (.cells R0 25)).heap → ∀ k, k < N → W.heap[k]? = w.heap[k]? := fun W hW k hk => by
  rw [hW]; exact heap_alloc_old w.drew _ (show k < w.drew.heap.size from by rw [hN] at hk; exact hk)
 have hcpA : ∀ W : World, W.heap = (w.drew.alloc (.cells R0 25)).heap → ∀ ty dc, (Builtin.copy_ #[31, 31] ty #[.slice (some ⟨N, i * 5, none⟩) (n + m - i) dc, .slice (some ⟨g2, 0, none⟩) m vc]).run Try.prog W = .ok (goInt (m : Int)) (W.setRow N R1) := fun W hW ty dc => by
  have h := run_copy_rowK (P := Try.prog) W 31 31 ty 25 N (i * 5) (n + m - i) dc ⟨g2, 0, none⟩ m vc R0 25 vs 5 m i0 u31 hi0 hzs (hnewW W hW) (by simp only [Nat.min_def]; split <;> omega) hvl
   (fun j v hj => by
    rw [Addr.add_lit, Nat.zero_add]; have := hcell2 j v hj; simp only [World.cell?] at this ⊢; rw [holdW W hW g2 (by omega)]; exact this) (by rw [hvl, hR0s]; omega) h1v
  rw [← hR1] at h; exact h
 have hcpB : ∀ W : World, W.heap = ((w.drew.alloc (.cells R0 25)).setRow N R1).heap → ∀ ty dc sc, (Builtin.copy_ #[31, 31] ty #[.slice (some ⟨N, (i + m) * 5, none⟩) (n + m - (i + m)) dc, .slice (some ⟨g, i * 5, none⟩) (n - i) sc]).run Try.prog W = .ok (goInt ((n - i : Nat) : Int)) (W.setRow N R2) := fun W hW ty dc sc => by
  have h := run_copy_rowK (P := Try.prog) W 31 31 ty 25 N ((i + m) * 5) (n + m - (i + m)) dc ⟨g, i * 5, none⟩ (n - i) sc R1 25 (cs.drop (i * 5)) 5 (n - i) i0 u31 hi0 hzs (by rw [hW]; exact setRow_heap _ N R0 R1 25 (0, 0) (hnewW _ rfl)) (by simp only [Nat.min_def]; split <;> omega) hdl
   (fun j v hj => by
    rw [Addr.add_lit]; have := hcell (i * 5 + j) v (by rwa [List.getElem?_drop] at hj); simp only [World.cell?] at this ⊢; rw [hW, setRow_other _ N g R1 (by omega), holdW _ rfl g (by omega)]; exact this) (by rw [hdl, hR1s, hR0s]; omega) (fun v hv => h1c v (List.mem_of_mem_drop hv))
  rw [← hR2] at h; exact h
 have hw1 : IntKind.i64.wrap ((i : Int) + (m : Int)) = (i : Int) + (m : Int) := by rw [IntKind.wrap_i64]; omega
 have hb1 : (0 : Int) ≤ (i : Int) + (m : Int) := by omega
 have hin : i ≤ n := by omega
 have htn : ((i : Int) + (m : Int)).toNat = i + m := by omega
 have hb3 : (i : Int) ≤ (n : Int) := by omega
 have hcpA2 := hcpA (w.alloc (.cells R0 25)).drew rfl; rw [← hN] at hrz ⊢; have HR0 := Aside0.mk hR0s; have HR0t := Aside0.mk hR0t; have HR1 := Aside0.mk hR1; have HR2 := Aside0.mk hR2; have HN := Aside0.mk hN; clear hkk hik hold hG hR0 hR0s hR0t hR1 hR2 hR1s hnewW holdW hcell hcell2 hcs hvs hil hdl hN hcl hvl; go_enter Try.func57, Try.ntmps57; go_wp2_with (first | (at_builtin; refine Lib.wpList_append_run _ rfl _ _ _ _ rfl _ _ rfl rfl _ _ (hrz _) ?_) | (simp only [hcpA2])); go_region_law_o (refine step_copy_runI rfl _ _ 31 31 rfl (.slice (some ⟨N, (i + m) * 5, none⟩) (n + m - (i + m)) (G - (i + m))) (.slice (some ⟨g, i * 5, none⟩) (n - i) (c - i)) (by simp [Act.eval, Act.put]) (by simp [Act.eval, Act.put]) (hcpB _ (by rfl) _ _ _) ?_)
 go_wp2; go_ret; exact ⟨G, R0, R1, R2, rfl, hGn, hG63, HR0.out, HR0t.out, HR1.out, HR2.out, rfl, rfl, rfl, rfl⟩

theorem k25_any {w w' : World} {base base' : Nat} {ok ok' : Nat → Prop} {x : S25} {cs : List Value} (h : k25.M w base ok x cs) : k25.M w' base' ok' x cs := h
theorem row_R {w : World} {base g n c : Nat} {ok : Nat → Prop} {C : Array Value} {inner : List Value} {xs : List S25} {w1 : World} {b1 : Nat} {ok1 : Nat → Prop} (hh : w.heap[g]? = some (.cells C 25 (0, 0))) (hb : base ≤ g) (hn : n = xs.length) (hc : n ≤ c) (hm : c ≤ maxLen) (hs : C.size = c * 5) (ht : C.toList.take (n * 5) = inner) (hr : Reps (k25.M w1 b1 ok1) 5 xs inner) (hok : ok g) : k25.R 25 w base ok (.slice (some ⟨g, 0, none⟩) n c) xs := by
 subst hn; refine ⟨fun k hk => ?_, inner, ⟨hr.1, .inr ⟨g, c, C, rfl, hb, hh, hc, hm, hs, ht⟩⟩, hr.imp_ (fun _ _ h => k25_any h)⟩; have : g = k := by simpa [Value.ownBlock] using hk
 subst this; exact hok
/-- What the two stores leave. -/
theorem stored_cells (L cs vs : List Value) (i m n a : Nat) (hi : i < n) (hcl : cs.length = n * 5) (hvl : vs.length = m * 5) (hL : (n + m) * 5 ≤ L.length) (hpre : L.take (i * 5) = cs.take (i * 5)) :
  let C1 := L.take ((i + m) * 5) ++ cs.drop (i * 5) ++ L.drop ((i + m) * 5 + (cs.drop (i * 5)).length)
  (C1.take (i * 5) ++ vs ++ C1.drop (i * 5 + vs.length)).take ((n + m) * 5) = cs.take (i * 5) ++ vs ++ cs.drop (i * 5) := by
 intro C1; have hdl : (cs.drop (i * 5)).length = (n - i) * 5 := by rw [List.length_drop, hcl, Nat.sub_mul]
 have hLt : (L.take ((i + m) * 5)).length = (i + m) * 5 := by rw [List.length_take]; omega
 have e1 : C1.take (i * 5) = cs.take (i * 5) := by
  simp only [C1, List.append_assoc]; rw [List.take_append_of_le_length (by omega), List.take_take, Nat.min_eq_left (by omega), hpre]
 have e2 : C1.drop (i * 5 + vs.length) = cs.drop (i * 5) ++ L.drop ((i + m) * 5 + (cs.drop (i * 5)).length) := by
  simp only [C1, List.append_assoc]; rw [show i * 5 + vs.length = (L.take ((i + m) * 5)).length by omega, List.drop_left]
 rw [e1, e2, ← List.append_assoc]; have hil : (cs.take (i * 5)).length = i * 5 := by rw [List.length_take, hcl]; omega
 rw [List.take_append_of_le_length (by simp only [List.length_append, hil, hvl, hdl]; omega), List.take_of_length_le (by simp only [List.length_append, hil, hvl, hdl]; omega)]
theorem stored_cells2 (L cs vs : List Value) (i m n : Nat) (hi : i < n) (hcl : cs.length = n * 5) (hvl : vs.length = m * 5) (hL : (n + m) * 5 ≤ L.length) (hpre : L.take (i * 5) = cs.take (i * 5)) :
  let R1 := L.take (i * 5) ++ vs ++ L.drop (i * 5 + vs.length)
  (R1.take ((i + m) * 5) ++ cs.drop (i * 5) ++ R1.drop ((i + m) * 5 + (cs.drop (i * 5)).length)).take ((n + m) * 5) = cs.take (i * 5) ++ vs ++ cs.drop (i * 5) := by
 intro R1; have hdl : (cs.drop (i * 5)).length = (n - i) * 5 := by rw [List.length_drop, hcl, Nat.sub_mul]
 have hil : (cs.take (i * 5)).length = i * 5 := by rw [List.length_take, hcl]; omega
 have e1 : R1.take ((i + m) * 5) = cs.take (i * 5) ++ vs := by
  simp only [R1, hpre]; rw [List.take_append_of_le_length (by simp only [List.length_append, hil, hvl]; omega), List.take_of_length_le (by simp only [List.length_append, hil, hvl]; omega)]
 rw [e1, List.take_append_of_le_length (by simp only [List.length_append, hil, hvl, hdl]; omega), List.take_of_length_le (by simp only [List.length_append, hil, hvl, hdl]; omega)]
def impl_Mark_57.f (l0 : List (S25)) (a1 : Int) (l2 : List (S25)) : Option ((List (S25))) := if 0 ≤ a1 ∧ a1 ≤ (l0.length : Int) ∧ 0 < l2.length ∧ l0.length + l2.length < 1000000 then some (l0.take a1.toNat ++ l2 ++ l0.drop a1.toNat) else none
set_option maxHeartbeats 4000000 in
set_option maxRecDepth 100000 in
theorem insert_end (P0_ : Nat → Prop) (u0_ : Value) (l0 : List S25) (P2_ : Nat → Prop) (u2_ : Value) (l2 : List S25) (w0 w : World) (hB : Below w0.heap.size w0 w) (ho0 : k25.R 25 w w0.heap.size P0_ u0_ l0) (ho2 : k25.R 25 w w0.heap.size P2_ u2_ l2) (hm : 0 < l2.length) (hlim : l0.length + l2.length < 1000000) :
  Calls Try.prog 57 #[u0_, .int .i64 (l0.length : Int), u2_] w fun e w' => ∃ v0_ : Value, e = .returned (v0_) ∧ k25.R 25 w' w0.heap.size (fun k_ => ((P0_ k_ ∨ P2_ k_) ∨ w.heap.size ≤ k_)) v0_ (l0 ++ l2) ∧ Below w0.heap.size w0 w' ∧ Kept w w' (fun k_ => P0_ k_ ∨ P2_ k_) := by
 obtain ⟨A0, c0, rfl⟩ := Kd.R_slice ho0; obtain ⟨A2, c2, rfl⟩ := Kd.R_slice ho2; have HR2 := Aside0.mk (Kd.R_reads' ho2).2.2; have HO := Aside0.mk (show k25.R 25 w w0.heap.size (fun k_ => ((P0_ k_ ∨ P2_ k_) ∨ w.heap.size ≤ k_)) (.slice A0 l0.length c0) l0 from Kd.R_mono ho0 (fun k_ hk => .inl (.inl hk))); have HOK := Aside0.mk ho0.1; have HB := Aside0.mk hB; have HL := Aside0.mk hlim; have hz1 : ¬ ((l2.length : Int) = 0) := by omega
 have hz2 : (0 : Int) ≤ (l0.length : Int) := by omega
 clear ho0 ho2 hB hlim; go_enter Try.func57, Try.ntmps57; go_wp2_with (((with_reducible refine gate_builtin (b := .append) (xs := #[.tmp 23, .tmp 24]) rfl ?_); at_builtin; refine Kd.R_append_rows k25 (w0 := w0) w0.heap.size rfl (.tmp 23) (.tmp 24) 31 25 (.agg #[(.int .i64 0), (.int .i64 0), (.int .i64 0), (.int .i64 0), (.int .i64 0)]) 40 rfl Try.underlying31 info25 rfl (by decide) (by omega) _ l0 l2 _ _ _ (fun k_ => ((P0_ k_ ∨ P2_ k_) ∨ w.heap.size ≤ k_)) (fun _ => False) rfl rfl HO.out HR2.out (fun _ _ h => h) (fun _ h => h.elim) (fun _ hk => .inr hk) HB.out (below_size HB.out) (by have := HL.out; omega) ?_; intro v1 w1 ho hb hg hat))
 all_goals
  go_ret; exact ⟨_, rfl, ho, hb, Kept.of_grown (S := fun k_ => P0_ k_ ∨ P2_ k_) hg (Kept.refl w _) (fun k_ e_ => .inl (.inl (HOK.out k_ e_)))⟩
set_option maxHeartbeats 4000000 in
theorem impl_Mark_57.calls (P0_ : Nat → Prop) (u0_ : Value) (l0 : List S25) (a1 : Int) (P2_ : Nat → Prop) (u2_ : Value) (l2 : List S25) (r : List S25) (w0 w : World) (hB : Below w0.heap.size w0 w) (ho0 : k25.R 25 w w0.heap.size P0_ u0_ l0) (hp0_2 : ∀ k_, P0_ k_ → ¬ P2_ k_) (ho2 : k25.R 25 w w0.heap.size P2_ u2_ l2) (hp2_0 : ∀ k_, P2_ k_ → ¬ P0_ k_) (h : impl_Mark_57.f l0 a1 l2 = some r) :
  Calls Try.prog 57 #[u0_, .int .i64 a1, u2_] w fun e w' => ∃ v0_ : Value, e = .returned (v0_) ∧ k25.R 25 w' w0.heap.size (fun k_ => ((P0_ k_ ∨ P2_ k_) ∨ w.heap.size ≤ k_)) v0_ r ∧ Below w0.heap.size w0 w' ∧ Kept w w' (fun k_ => P0_ k_ ∨ P2_ k_) := by
 have hc : 0 ≤ a1 ∧ a1 ≤ (l0.length : Int) ∧ 0 < l2.length ∧ l0.length + l2.length < 1000000 := by
  refine Classical.byContradiction fun hn => ?_
  rw [impl_Mark_57.f, if_neg hn] at h
  cases h
 rw [impl_Mark_57.f, if_pos hc] at h; injection h with h
 subst h; obtain ⟨h0, h1, h2, h3⟩ := hc; obtain ⟨i, rfl⟩ := Int.eq_ofNat_of_zero_le h0; rw [Int.toNat_natCast]; rcases Nat.lt_or_ge i l0.length with hi | hi
 ·obtain ⟨hP0, inner, ⟨hlen, ho⟩, hr⟩ := ho0; obtain ⟨hP2, inner2, ⟨hlen2, ho2'⟩, hr2⟩ := ho2; rcases ho with ⟨_, hn0⟩ | ⟨g, cap, cur, rfl, hbg, hg, hnc, hcm, hcs, htk⟩
  ·omega
  rcases ho2' with ⟨_, hn2⟩ | ⟨g2, cap2, cur2, rfl, hbg2, hg2, hnc2, hcm2, hcs2, htk2⟩
  ·omega
  have hne : g2 ≠ g := by
   rintro rfl; exact hp0_2 _ (hP0 _ rfl) (hP2 _ rfl)
  have hlen' : inner.length = l0.length * 5 := hlen; have hlen2' : inner2.length = l2.length * 5 := hlen2; have htk' : cur.toList.take (l0.length * 5) = inner := htk; have htk2' : cur2.toList.take (l2.length * 5) = inner2 := htk2; have hcs' : cur.size = cap * 5 := hcs; have h1c : ∀ v ∈ inner, v.oneCell' = true := Kd.reps_one hr (by decide) (fun p c hp => k25.K_one (k25.K_of_M hp)); have h1v : ∀ v ∈ inner2, v.oneCell' = true := Kd.reps_one hr2 (by decide) (fun p c hp => k25.K_one (k25.K_of_M hp)); have hpre : cur.toList.take (i * 5) = inner.take (i * 5) := by rw [← htk', List.take_take, Nat.min_eq_left (by omega)]
  have hreps : Reps (k25.M w w0.heap.size (fun _ => True)) 5 (l0.take i ++ l2 ++ l0.drop i) (inner.take (i * 5) ++ inner2 ++ inner.drop (i * 5)) :=
   Kd.reps_append (Kd.reps_append (Kd.reps_take (hr.imp_ (fun _ _ h => k25_any h)) (by omega)) (hr2.imp_ (fun _ _ h => k25_any h))) (Kd.reps_drop (hr.imp_ (fun _ _ h => k25_any h)))
  have hln : l0.length + l2.length = (l0.take i ++ l2 ++ l0.drop i).length := by simp only [List.length_append, List.length_take, List.length_drop]; omega
  have hmx : maxLen = 9223372036854775807 := rfl; rcases Nat.lt_or_ge cap (l0.length + l2.length) with hroom | hroom
  ·refine (insert_grow g g2 l0.length cap i l2.length cap2 cur inner inner2 w hi h2 hnc hroom (by omega) hlen' hlen2' hg htk' cur2 hg2 htk2' h1c h1v).mono ?_; rintro e w' ⟨G, R0, R1, R2, rfl, hGn, hG63, hR0, hR0t, hR1, hR2, hheap, hos, htape, hout⟩; have hR1s : R1.size = R0.size := by rw [hR1]; simp only [List.size_toArray, List.length_append, List.length_take, List.length_drop, hlen2', Array.length_toList, hR0]; omega
   have hR2s : R2.size = R1.size := by rw [hR2]; simp only [List.size_toArray, List.length_append, List.length_take, List.length_drop, hlen', Array.length_toList, hR1s, hR0]; omega
   have hnew : w'.heap[w.heap.size]? = some (.cells R2 25 (0, 0)) := by
    rw [hheap]; exact setRow_heap _ _ R1 R2 25 (0, 0) (setRow_heap _ _ R0 R1 25 (0, 0) (blk_new w _))
   have hold : ∀ k, k < w.heap.size → w'.heap[k]? = w.heap[k]? := fun k hk => by
    rw [hheap, setRow_other _ _ k R2 (by omega), setRow_other _ _ k R1 (by omega)]; exact heap_alloc_old w _ hk
   have hsz : w.heap.size ≤ w'.heap.size := by rw [hheap, setRow_size, setRow_size]; exact (below_alloc (Below.refl _ _) _).size
   have hgb : w.grownBy w' none := ⟨hos, htape, hout, hsz, fun k hk _ => hold k hk⟩
   have htake : R2.toList.take ((l0.length + l2.length) * 5) = inner.take (i * 5) ++ inner2 ++ inner.drop (i * 5) := by
    have e0 : R0.toList.length = G * 5 := by rw [← hR0]; exact Array.length_toList
    have := stored_cells2 R0.toList inner inner2 i l2.length l0.length hi hlen' hlen2' (by omega) hR0t; rw [hR2, hR1]; exact this
   exact ⟨_, rfl, row_R hnew (below_size hB) hln hGn (by omega) (by omega) htake hreps (.inr (Nat.le_refl _)), pw_below_grown hB none (below_size hB) hgb (fun k e => by cases e), ⟨hsz, fun k hk _ => hold k hk⟩⟩
  ·refine (insert_room g g2 l0.length cap i l2.length cap2 cur inner inner2 w hi h2 hroom (by omega) hne hlen' hlen2' hg hcs' htk' cur2 hg2 htk2' h1c h1v).mono ?_; rintro e w' ⟨rfl, C1, C2, hC1, hC2, rfl⟩; have hC1s : C1.size = cur.size := by rw [hC1]; simp only [List.size_toArray, List.length_append, List.length_take, List.length_drop, hlen', Array.length_toList]; omega
   have hC2s : C2.size = C1.size := by rw [hC2]; simp only [List.size_toArray, List.length_append, List.length_take, List.length_drop, hlen2', Array.length_toList, hC1s]; omega
   have hnew : ((w.drew.setRow g C1).setRow g C2).heap[g]? = some (.cells C2 25 (0, 0)) := setRow_heap _ g C1 C2 25 (0, 0) (setRow_heap w.drew g cur C1 25 (0, 0) hg)
   have hold : ∀ k, k ≠ g → ((w.drew.setRow g C1).setRow g C2).heap[k]? = w.heap[k]? := fun k hk => by
    rw [setRow_other _ _ k C2 hk, setRow_other _ _ k C1 hk]; rfl
   have hsz : w.heap.size ≤ ((w.drew.setRow g C1).setRow g C2).heap.size := by rw [setRow_size, setRow_size]; exact Nat.le_refl _
   have hgb : w.grownBy ((w.drew.setRow g C1).setRow g C2) (some g) := ⟨rfl, rfl, rfl, hsz, fun k _ hk => hold k (by rintro rfl; exact hk rfl)⟩
   have htake : C2.toList.take ((l0.length + l2.length) * 5) = inner.take (i * 5) ++ inner2 ++ inner.drop (i * 5) := by
    have e0 : cur.toList.length = cap * 5 := by rw [← hcs']; exact Array.length_toList
    have := stored_cells cur.toList inner inner2 i l2.length l0.length 0 hi hlen' hlen2' (by omega) hpre; rw [hC2, hC1]; exact this
   exact ⟨_, rfl, row_R hnew hbg hln hroom hcm (by omega) htake hreps (.inl (.inl (hP0 _ rfl))), pw_below_grown hB _ (below_size hB) hgb (fun k e => by injection e with e; subst e; exact hbg), ⟨hsz, fun k hk hn => hold k (by rintro rfl; exact hn (.inl (hP0 _ rfl)))⟩⟩
 ·obtain rfl : i = l0.length := by omega
  rw [List.take_length, List.drop_length, List.append_nil]; exact insert_end P0_ u0_ l0 P2_ u2_ l2 w0 w hB ho0 ho2 h2 h3

/-! ### impl_IsNewer: function 12 -/
def impl_IsNewer.f (k : Nat) (a0_0 : Int) (a0_1 : Int) (a0_2 : Int) (a0_3 : Int) (a0_4 : Int) (a1_0 : Int) (a1_1 : Int) (a1_2 : Int) (a1_3 : Int) (a1_4 : Int) : Option (Bool) := (cmp_Compare_int.f a0_3 a1_3).bind fun t261 => ((cmp_Compare_int.f a0_4 a1_4).bind fun t262 => ((cmp_Compare_int.f a0_2 a1_2).bind fun t263 => ((cmp_Or_int.f k (([t261, t262, t263] : List Int))).bind fun t267 => (some (decide (t267 > 0))))))
theorem impl_IsNewer.mono : ∀ a0 a1 a2 a3 a4 a5 a6 a7 a8 a9 k, LeO (impl_IsNewer.f k a0 a1 a2 a3 a4 a5 a6 a7 a8 a9) (impl_IsNewer.f (k + 1) a0 a1 a2 a3 a4 a5 a6 a7 a8 a9) := by
 intro a0 a1 a2 a3 a4 a5 a6 a7 a8 a9 k; unfold impl_IsNewer.f
 repeat' first
   | (with_reducible exact cmp_Or_int.mono _ _)
   | (with_reducible exact LeO.refl _)
   | (with_reducible exact LeO.none _)
   | (with_reducible refine LeO.ite ?_ ?_)
   | (with_reducible refine LeO.bind ?_ (fun _ => ?_))
   | exact cmp_Or_int.mono _ _
   | exact LeO.none _
   | refine LeO.ite ?_ ?_
   | refine LeO.bind ?_ (fun _ => ?_)
def impl_IsNewer.T1 : Bool × List (List Nat × List Nat) := (true, [([], []), ([0], [0]), ([], []), ([2], [2]), ([1, 3], [1, 3]), ([], []), ([5], [5]), ([], []), ([7], [7]), ([6, 8, 4], [6, 8]), ([], []), ([10], [10]), ([], []), ([12], [12]), ([11, 13, 9], [11, 13]), ([4, 9, 14], [4, 9, 14]), ([15, 14], [15]), ([16], [16]), ([17, 16, 0, 1, 2, 3, 4, 5, 6, 7, 8, 9, 10, 11, 12, 13, 14, 15, 16, 17], [17])])
def impl_IsNewer.B1 : List Nat := [0, 1, 0, 4, 15, 0, 32, 0, 128, 511, 0, 1024, 0, 4096, 16383, 32767, 65535, 131071, 262143]
theorem impl_IsNewer.tab1 : rtab .any (opsOf Try.f12 1) = impl_IsNewer.T1 := by kernel_rfl
theorem impl_IsNewer.bits1 : waitsOk impl_IsNewer.T1.2 impl_IsNewer.B1 = true := by kernel_rfl
set_option maxHeartbeats 8000000 in
set_option maxRecDepth 100000 in
theorem impl_IsNewer.calls (k : Nat) (a0_0 : Int) (a0_1 : Int) (a0_2 : Int) (a0_3 : Int) (a0_4 : Int) (a1_0 : Int) (a1_1 : Int) (a1_2 : Int) (a1_3 : Int) (a1_4 : Int) (r : Bool) (w : World) (h : impl_IsNewer.f k a0_0 a0_1 a0_2 a0_3 a0_4 a1_0 a1_1 a1_2 a1_3 a1_4 = some r) :
  Calls Try.prog 12 #[.agg #[.int .i64 a0_0, .int .i64 a0_1, .int .i64 a0_2, .int .i64 a0_3, .int .i64 a0_4], .agg #[.int .i64 a1_0, .int .i64 a1_1, .int .i64 a1_2, .int .i64 a1_3, .int .i64 a1_4]] w fun e w' => e = .returned (.bool r) ∧ Below w.heap.size w w' := by
 have hu25 := Try.underlying25; have HB := Aside0.mk (Below.refl w.heap.size w); have H : ((cmp_Compare_int.f a0_3 a1_3).bind fun t261 => ((cmp_Compare_int.f a0_4 a1_4).bind fun t262 => ((cmp_Compare_int.f a0_2 a1_2).bind fun t263 => ((cmp_Or_int.f k (([t261, t262, t263] : List Int))).bind fun t267 => (some (decide (t267 > 0))))))) = some r := h; clear h; replace H := Option.bind_eq_some_iff.mp H; obtain ⟨t261, A30, H⟩ := H; (try dsimp only at H); have A3 := Aside0.mk A30; clear A30; replace H := Option.bind_eq_some_iff.mp H; obtain ⟨t262, A40, H⟩ := H; (try dsimp only at H); have A4 := Aside0.mk A40; clear A40; replace H := Option.bind_eq_some_iff.mp H; obtain ⟨t263, A50, H⟩ := H; (try dsimp only at H); have A5 := Aside0.mk A50; clear A50; obtain ⟨y264, hy264⟩ : ∃ y_ : List Int, y_ = (([t261, t262, t263] : List Int)) := ⟨_, rfl⟩; replace H : ((cmp_Or_int.f k y264).bind fun t267 => (some (decide (t267 > 0)))) = some r := by first | (rw [hy264]; with_reducible exact H) | (have H2_ := (Option.bind_some _ _).symm.trans H; rw [hy264]; with_reducible exact H2_) | (have H2_ := (Option.bind_some _ _).symm.trans H; with_reducible exact H2_) | with_reducible exact H | (rw [hy264]; exact H) | exact H
 have Ny264 := Aside0.mk hy264; clear hy264; replace H := Option.bind_eq_some_iff.mp H; obtain ⟨t267, A60, H⟩ := H; (try dsimp only at H); have A6 := Aside0.mk A60; clear A60; obtain rfl := Option.some.inj H
 go_enter Try.func12, Try.ntmps12; try go_wp2_with (first | ((with_reducible refine gate_dst (N := 2) rfl ?_); refine box_event ?hg (N := 2) ?hd (cs := #[.int .i64 a0_0, .int .i64 a0_1, .int .i64 a0_2, .int .i64 a0_3, .int .i64 a0_4]) (t := 25) ?hr ?_; (case hd => rfl); (case hg => rfl); (case hr => first | (go_simp; done) | (go_simp; rfl)); intro gb259 hg w7 hbox hb; have n0_ := Aside0.mk (below_step bl_ hb); have n1_ := Aside0.mk (hbox); have n2_ := Aside0.mk ((by rw [hg]; exact (below_size bl_) : w.heap.size ≤ gb259)); have n3_ := Aside0.mk ((by rw [hg]; exact (below_size bl_) : w.heap.size ≤ gb259)); clear HB; have HB := n0_; have BK259 := n1_; have GW259 := n2_; have GE259 := n3_; clear n0_ n1_ n2_ n3_; clear hb hbox hg) | ((with_reducible refine gate_dst (N := 3) rfl ?_); refine box_event ?hg (N := 3) ?hd (cs := #[.int .i64 a1_0, .int .i64 a1_1, .int .i64 a1_2, .int .i64 a1_3, .int .i64 a1_4]) (t := 25) ?hr ?_; (case hd => rfl); (case hg => rfl); (case hr => first | (go_simp; done) | (go_simp; rfl)); intro gb260 hg w8 hbox hb; have n0_ := Aside0.mk (blk_below (g := gb259) (o := .cells #[.int .i64 a0_0, .int .i64 a0_1, .int .i64 a0_2, .int .i64 a0_3, .int .i64 a0_4] 25 (0, 0)) (by (with_reducible repeat (first | refine blk_drewN ?_ _ | refine blk_drew ?_ | refine blk_alloc ?_ _)); exact BK259.out) hb); have n1_ := Aside0.mk (below_step bl_ hb); have n2_ := Aside0.mk (hbox); have n3_ := Aside0.mk ((by rw [hg]; exact (below_size bl_) : w.heap.size ≤ gb260)); have n4_ := Aside0.mk ((by rw [hg]; exact (below_size bl_) : w.heap.size ≤ gb260)); have n5_ := Aside0.mk ((by rw [hg]; exact Nat.ne_of_lt (blk_lt (g := gb259) (o := .cells #[.int .i64 a0_0, .int .i64 a0_1, .int .i64 a0_2, .int .i64 a0_3, .int .i64 a0_4] 25 (0, 0)) (by (with_reducible repeat (first | refine blk_drewN ?_ _ | refine blk_drew ?_ | refine blk_alloc ?_ _)); exact BK259.out)) : gb259 ≠ gb260)); have n6_ := Aside0.mk ((by rw [hg]; exact Nat.ne_of_gt (blk_lt (g := gb259) (o := .cells #[.int .i64 a0_0, .int .i64 a0_1, .int .i64 a0_2, .int .i64 a0_3, .int .i64 a0_4] 25 (0, 0)) (by (with_reducible repeat (first | refine blk_drewN ?_ _ | refine blk_drew ?_ | refine blk_alloc ?_ _)); exact BK259.out)) : gb260 ≠ gb259)); clear BK259; clear HB; have BK259 := n0_; have HB := n1_; have BK260 := n2_; have GW260 := n3_; have GE260 := n4_; have NB259_260 := n5_; have NB260_259 := n6_; clear n0_ n1_ n2_ n3_ n4_ n5_ n6_; clear hb hbox hg))
 have n0_ := Aside0.mk (blk_drew BK259.out); have n1_ := Aside0.mk (blk_drew BK260.out); have n2_ := Aside0.mk (below_drew1 HB.out); clear BK259; clear BK260; clear HB; have BK259 := n0_; have BK260 := n1_; have HB := n2_; clear n0_ n1_ n2_; refine start_ (n := 19) (S := fun w' => w'.cell? ⟨gb259, 0, none⟩ = some (.int .i64 a0_0) ∧ w'.cell? ⟨gb259, 1, none⟩ = some (.int .i64 a0_1) ∧ w'.cell? ⟨gb259, 2, none⟩ = some (.int .i64 a0_2) ∧ w'.cell? ⟨gb259, 3, none⟩ = some (.int .i64 a0_3) ∧ w'.cell? ⟨gb259, 4, none⟩ = some (.int .i64 a0_4) ∧ w'.cell? ⟨gb260, 0, none⟩ = some (.int .i64 a1_0) ∧ w'.cell? ⟨gb260, 1, none⟩ = some (.int .i64 a1_1) ∧ w'.cell? ⟨gb260, 2, none⟩ = some (.int .i64 a1_2) ∧ w'.cell? ⟨gb260, 3, none⟩ = some (.int .i64 a1_3) ∧ w'.cell? ⟨gb260, 4, none⟩ = some (.int .i64 a1_4)) (ds := []) #[ff,ff,ff,ff,ff,ff,ff,ff,ff,ff,ff,ff,ff,ff,ff,ff,ff,ff,ff] (by kernel_rfl) rfl rfl ⟨(blk_cell BK259.out 0).trans rfl, (blk_cell BK259.out 1).trans rfl, (blk_cell BK259.out 2).trans rfl, (blk_cell BK259.out 3).trans rfl, (blk_cell BK259.out 4).trans rfl, (blk_cell BK260.out 0).trans rfl, (blk_cell BK260.out 1).trans rfl, (blk_cell BK260.out 2).trans rfl, (blk_cell BK260.out 3).trans rfl, (blk_cell BK260.out 4).trans rfl⟩ (fun hHeld => ?_); refine with_tabW impl_IsNewer.tab1 impl_IsNewer.bits1 (fun HT_ HW_ => ?_); generalize w8.drew = w9 at BK259 BK260 HB hHeld ⊢
 refine pure_ (i := 0) (N := some 5) (v := ?_) (a' := ?_) #[tt,ff,ff,ff,ff,ff,ff,ff,ff,ff,ff,ff,ff,ff,ff,ff,ff,ff,ff] rfl rfl (any_of HT_.out (by kernel_rfl)) (fun _ _ _ h => h) (Or.inl ⟨by rfl, ?_⟩) ?_ ?_; rotate_left
 ·intro w'; go_simp; (with_reducible rfl)
 rotate_left
 ·simp only [Act.put, List.setIfInBounds_toArray, List.set_cons_zero, List.set_cons_succ, i64_w, i32_w]; rfl
 refine pure_ (i := 2) (N := some 7) (v := ?_) (a' := ?_) #[tt,ff,tt,ff,ff,ff,ff,ff,ff,ff,ff,ff,ff,ff,ff,ff,ff,ff,ff] rfl rfl (any_of HT_.out (by kernel_rfl)) (fun _ _ _ h => h) (Or.inl ⟨by rfl, ?_⟩) ?_ ?_; rotate_left
 ·intro w'; go_simp; (with_reducible rfl)
 rotate_left
 ·simp only [Act.put, List.setIfInBounds_toArray, List.set_cons_zero, List.set_cons_succ, i64_w, i32_w]; rfl
 refine pure_ (i := 5) (N := some 10) (v := ?_) (a' := ?_) #[tt,ff,tt,ff,ff,tt,ff,ff,ff,ff,ff,ff,ff,ff,ff,ff,ff,ff,ff] rfl rfl (any_of HT_.out (by kernel_rfl)) (fun _ _ _ h => h) (Or.inl ⟨by rfl, ?_⟩) ?_ ?_; rotate_left
 ·intro w'; go_simp; (with_reducible rfl)
 rotate_left
 ·simp only [Act.put, List.setIfInBounds_toArray, List.set_cons_zero, List.set_cons_succ, i64_w, i32_w]; rfl
 refine pure_ (i := 7) (N := some 12) (v := ?_) (a' := ?_) #[tt,ff,tt,ff,ff,tt,ff,tt,ff,ff,ff,ff,ff,ff,ff,ff,ff,ff,ff] rfl rfl (any_of HT_.out (by kernel_rfl)) (fun _ _ _ h => h) (Or.inl ⟨by rfl, ?_⟩) ?_ ?_; rotate_left
 ·intro w'; go_simp; (with_reducible rfl)
 rotate_left
 ·simp only [Act.put, List.setIfInBounds_toArray, List.set_cons_zero, List.set_cons_succ, i64_w, i32_w]; rfl
 refine pure_ (i := 10) (N := some 15) (v := ?_) (a' := ?_) #[tt,ff,tt,ff,ff,tt,ff,tt,ff,ff,tt,ff,ff,ff,ff,ff,ff,ff,ff] rfl rfl (any_of HT_.out (by kernel_rfl)) (fun _ _ _ h => h) (Or.inl ⟨by rfl, ?_⟩) ?_ ?_; rotate_left
 ·intro w'; go_simp; (with_reducible rfl)
 rotate_left
 ·simp only [Act.put, List.setIfInBounds_toArray, List.set_cons_zero, List.set_cons_succ, i64_w, i32_w]; rfl
 refine pure_ (i := 12) (N := some 17) (v := ?_) (a' := ?_) #[tt,ff,tt,ff,ff,tt,ff,tt,ff,ff,tt,ff,tt,ff,ff,ff,ff,ff,ff] rfl rfl (any_of HT_.out (by kernel_rfl)) (fun _ _ _ h => h) (Or.inl ⟨by rfl, ?_⟩) ?_ ?_; rotate_left
 ·intro w'; go_simp; (with_reducible rfl)
 rotate_left
 ·simp only [Act.put, List.setIfInBounds_toArray, List.set_cons_zero, List.set_cons_succ, i64_w, i32_w]; rfl
 refine take_ (i := 1) (N := some 6) (v := ?_) (a' := ?_) #[tt,tt,tt,ff,ff,tt,ff,tt,ff,ff,tt,ff,tt,ff,ff,ff,ff,ff,ff] rfl rfl (take_ofW HT_.out HW_.out (by kernel_rfl)) (fun _ _ _ h => h) (Or.inl ⟨by rfl, ?_⟩) hHeld ?_ ?_; rotate_left
 ·rintro w' ⟨s0, s1, s2, s3, s4, s5, s6, s7, s8, s9⟩; go_simp; (with_reducible rfl)
 rotate_left
 ·simp only [Act.put, List.setIfInBounds_toArray, List.set_cons_zero, List.set_cons_succ, i64_w, i32_w]; rfl
 refine take_ (i := 3) (N := some 8) (v := ?_) (a' := ?_) #[tt,tt,tt,tt,ff,tt,ff,tt,ff,ff,tt,ff,tt,ff,ff,ff,ff,ff,ff] rfl rfl (take_ofW HT_.out HW_.out (by kernel_rfl)) (fun _ _ _ h => h) (Or.inl ⟨by rfl, ?_⟩) hHeld ?_ ?_; rotate_left
 ·rintro w' ⟨s0, s1, s2, s3, s4, s5, s6, s7, s8, s9⟩; go_simp; (with_reducible rfl)
 rotate_left
 ·simp only [Act.put, List.setIfInBounds_toArray, List.set_cons_zero, List.set_cons_succ, i64_w, i32_w]; rfl
 refine take_ (i := 6) (N := some 11) (v := ?_) (a' := ?_) #[tt,tt,tt,tt,ff,tt,tt,tt,ff,ff,tt,ff,tt,ff,ff,ff,ff,ff,ff] rfl rfl (take_ofW HT_.out HW_.out (by kernel_rfl)) (fun _ _ _ h => h) (Or.inl ⟨by rfl, ?_⟩) hHeld ?_ ?_; rotate_left
 ·rintro w' ⟨s0, s1, s2, s3, s4, s5, s6, s7, s8, s9⟩; go_simp; (with_reducible rfl)
 rotate_left
 ·simp only [Act.put, List.setIfInBounds_toArray, List.set_cons_zero, List.set_cons_succ, i64_w, i32_w]; rfl
 refine take_ (i := 8) (N := some 13) (v := ?_) (a' := ?_) #[tt,tt,tt,tt,ff,tt,tt,tt,tt,ff,tt,ff,tt,ff,ff,ff,ff,ff,ff] rfl rfl (take_ofW HT_.out HW_.out (by kernel_rfl)) (fun _ _ _ h => h) (Or.inl ⟨by rfl, ?_⟩) hHeld ?_ ?_; rotate_left
 ·rintro w' ⟨s0, s1, s2, s3, s4, s5, s6, s7, s8, s9⟩; go_simp; (with_reducible rfl)
 rotate_left
 ·simp only [Act.put, List.setIfInBounds_toArray, List.set_cons_zero, List.set_cons_succ, i64_w, i32_w]; rfl
 refine take_ (i := 11) (N := some 16) (v := ?_) (a' := ?_) #[tt,tt,tt,tt,ff,tt,tt,tt,tt,ff,tt,tt,tt,ff,ff,ff,ff,ff,ff] rfl rfl (take_ofW HT_.out HW_.out (by kernel_rfl)) (fun _ _ _ h => h) (Or.inl ⟨by rfl, ?_⟩) hHeld ?_ ?_; rotate_left
 ·rintro w' ⟨s0, s1, s2, s3, s4, s5, s6, s7, s8, s9⟩; go_simp; (with_reducible rfl)
 rotate_left
 ·simp only [Act.put, List.setIfInBounds_toArray, List.set_cons_zero, List.set_cons_succ, i64_w, i32_w]; rfl
 refine take_ (i := 13) (N := some 18) (v := ?_) (a' := ?_) #[tt,tt,tt,tt,ff,tt,tt,tt,tt,ff,tt,tt,tt,tt,ff,ff,ff,ff,ff] rfl rfl (take_ofW HT_.out HW_.out (by kernel_rfl)) (fun _ _ _ h => h) (Or.inl ⟨by rfl, ?_⟩) hHeld ?_ ?_; rotate_left
 ·rintro w' ⟨s0, s1, s2, s3, s4, s5, s6, s7, s8, s9⟩; go_simp; (with_reducible rfl)
 rotate_left
 ·simp only [Act.put, List.setIfInBounds_toArray, List.set_cons_zero, List.set_cons_succ, i64_w, i32_w]; rfl
 refine one_ (i := 4) (N := some 9) #[tt,tt,tt,tt,tt,tt,tt,tt,tt,ff,tt,tt,tt,tt,ff,ff,ff,ff,ff] rfl rfl (one_of HT_.out (by kernel_rfl)) (by decide) (fun K hK => ?_); refine goes_ Try.func37 (by kernel_rfl) rfl #[.int .i64 a0_3, .int .i64 a1_3] (by rfl) rfl rfl (by (try simp only [List.map_toArray, List.map_cons, List.map_nil]); first | done | rfl | (simp only [List.length_drop, List.length_take]; rfl)) ?_; (with_reducible refine (cmp_Compare_int.calls a0_3 a1_3 t261 _ A3.out).mono ?_); rintro e w' ⟨rfl, ⟨nd, rfl⟩⟩; refine ⟨_, rfl, ?_⟩; refine hK.out _ _ ⟨(blk_cell BK259.out 0).trans rfl, (blk_cell BK259.out 1).trans rfl, (blk_cell BK259.out 2).trans rfl, (blk_cell BK259.out 3).trans rfl, (blk_cell BK259.out 4).trans rfl, (blk_cell BK260.out 0).trans rfl, (blk_cell BK260.out 1).trans rfl, (blk_cell BK260.out 2).trans rfl, (blk_cell BK260.out 3).trans rfl, (blk_cell BK260.out 4).trans rfl⟩ (fun hHeld => ?_); clear hK K; refine norm_ (a' := ?_) ?_ ?_; rotate_left
 ·show Act.put _ (some 9) _ = _; simp only [Act.put, List.setIfInBounds_toArray, List.set_cons_zero, List.set_cons_succ, i64_w, i32_w]; rfl
 refine one_ (i := 9) (N := some 14) #[tt,tt,tt,tt,tt,tt,tt,tt,tt,tt,tt,tt,tt,tt,ff,ff,ff,ff,ff] rfl rfl (one_of HT_.out (by kernel_rfl)) (by decide) (fun K hK => ?_); refine goes_ Try.func37 (by kernel_rfl) rfl #[.int .i64 a0_4, .int .i64 a1_4] (by rfl) rfl rfl (by (try simp only [List.map_toArray, List.map_cons, List.map_nil]); first | done | rfl | (simp only [List.length_drop, List.length_take]; rfl)) ?_; (with_reducible refine (cmp_Compare_int.calls a0_4 a1_4 t262 _ A4.out).mono ?_); rintro e w' ⟨rfl, ⟨nd, rfl⟩⟩; refine ⟨_, rfl, ?_⟩; refine hK.out _ _ ⟨(blk_cell BK259.out 0).trans rfl, (blk_cell BK259.out 1).trans rfl, (blk_cell BK259.out 2).trans rfl, (blk_cell BK259.out 3).trans rfl, (blk_cell BK259.out 4).trans rfl, (blk_cell BK260.out 0).trans rfl, (blk_cell BK260.out 1).trans rfl, (blk_cell BK260.out 2).trans rfl, (blk_cell BK260.out 3).trans rfl, (blk_cell BK260.out 4).trans rfl⟩ (fun hHeld => ?_); clear hK K; refine norm_ (a' := ?_) ?_ ?_; rotate_left
 ·show Act.put _ (some 14) _ = _; simp only [Act.put, List.setIfInBounds_toArray, List.set_cons_zero, List.set_cons_succ, i64_w, i32_w]; rfl
 refine one_ (i := 14) (N := some 19) #[tt,tt,tt,tt,tt,tt,tt,tt,tt,tt,tt,tt,tt,tt,tt,ff,ff,ff,ff] rfl rfl (one_of HT_.out (by kernel_rfl)) (by decide) (fun K hK => ?_); refine goes_ Try.func37 (by kernel_rfl) rfl #[.int .i64 a0_2, .int .i64 a1_2] (by rfl) rfl rfl (by (try simp only [List.map_toArray, List.map_cons, List.map_nil]); first | done | rfl | (simp only [List.length_drop, List.length_take]; rfl)) ?_; (with_reducible refine (cmp_Compare_int.calls a0_2 a1_2 t263 _ A5.out).mono ?_); rintro e w' ⟨rfl, ⟨nd, rfl⟩⟩; refine ⟨_, rfl, ?_⟩; refine hK.out _ _ ⟨(blk_cell BK259.out 0).trans rfl, (blk_cell BK259.out 1).trans rfl, (blk_cell BK259.out 2).trans rfl, (blk_cell BK259.out 3).trans rfl, (blk_cell BK259.out 4).trans rfl, (blk_cell BK260.out 0).trans rfl, (blk_cell BK260.out 1).trans rfl, (blk_cell BK260.out 2).trans rfl, (blk_cell BK260.out 3).trans rfl, (blk_cell BK260.out 4).trans rfl⟩ (fun hHeld => ?_); clear hK K; refine norm_ (a' := ?_) ?_ ?_; rotate_left
 ·show Act.put _ (some 19) _ = _; simp only [Act.put, List.setIfInBounds_toArray, List.set_cons_zero, List.set_cons_succ, i64_w, i32_w]; rfl
 refine one_ (i := 15) (N := some 20) #[tt,tt,tt,tt,tt,tt,tt,tt,tt,tt,tt,tt,tt,tt,tt,tt,ff,ff,ff] rfl rfl (one_of HT_.out (by kernel_rfl)) (by decide) (fun K hK => ?_); refine Kd.R_lit_step (Kd.int .i64) _ 3 ?hg (N := 20) ?hd (xs := ([t261, t262, t263] : List Int)) (inner := [.int .i64 t261, .int .i64 t262, .int .i64 t263]) (ok := fun _ => True) (okp := fun _ => True) ?hr ?hp (fun _ hk => hk) trivial (Below.refl _ _) (Nat.le_refl _) (by simp) ?_; (case hd => rfl); (case hg => rfl); (case hr => first | (go_simp; done) | (go_simp; rfl)); (case hp => exact (Reps.one (show Kd.M (Kd.int .i64) _ _ _ t261 [.int .i64 t261] from rfl) (Reps.one (show Kd.M (Kd.int .i64) _ _ _ t262 [.int .i64 t262] from rfl) (Reps.one (show Kd.M (Kd.int .i64) _ _ _ t263 [.int .i64 t263] from rfl) (Reps.none _ _))))); intro v265 w10 ho11 hb hg_ hnew_; clear hg_ hnew_; (first | rw [← Ny264.out] at ho11 | (simp only [Int.reduceToNat] at ho11; rw [← Ny264.out] at ho11)); have n0_ := Aside0.mk (Kd.R_lower ho11 (below_size bl_)); have n1_ := Aside0.mk (blk_below (g := gb259) (o := .cells #[.int .i64 a0_0, .int .i64 a0_1, .int .i64 a0_2, .int .i64 a0_3, .int .i64 a0_4] 25 (0, 0)) (by (with_reducible repeat (first | refine blk_drewN ?_ _ | refine blk_drew ?_ | refine blk_alloc ?_ _)); exact BK259.out) hb); have n2_ := Aside0.mk (blk_below (g := gb260) (o := .cells #[.int .i64 a1_0, .int .i64 a1_1, .int .i64 a1_2, .int .i64 a1_3, .int .i64 a1_4] 25 (0, 0)) (by (with_reducible repeat (first | refine blk_drewN ?_ _ | refine blk_drew ?_ | refine blk_alloc ?_ _)); exact BK260.out) hb); have n3_ := Aside0.mk (below_step bl_ hb); clear BK259; clear BK260; clear HB; have HO266 := n0_; have BK259 := n1_; have BK260 := n2_; have HB := n3_; clear n0_ n1_ n2_ n3_; clear hb ho11; obtain ⟨Ao12, co12, eo12⟩ := Kd.R_slice HO266.out; (first | subst eo12 | (injection eo12 with f1_ f2_ f3_; have f4_ := f1_.symm; have f5_ := f3_.symm; clear f1_ f2_ f3_; subst f4_; subst f5_))
 refine hK.out _ _ ⟨(blk_cell BK259.out 0).trans rfl, (blk_cell BK259.out 1).trans rfl, (blk_cell BK259.out 2).trans rfl, (blk_cell BK259.out 3).trans rfl, (blk_cell BK259.out 4).trans rfl, (blk_cell BK260.out 0).trans rfl, (blk_cell BK260.out 1).trans rfl, (blk_cell BK260.out 2).trans rfl, (blk_cell BK260.out 3).trans rfl, (blk_cell BK260.out 4).trans rfl⟩ (fun hHeld => ?_); clear hK K; refine norm_ (a' := ?_) ?_ ?_; rotate_left
 ·show Act.put _ (some 20) _ = _; simp only [Act.put, List.setIfInBounds_toArray, List.set_cons_zero, List.set_cons_succ, i64_w, i32_w]; rfl
 refine one_ (i := 16) (N := some 21) #[tt,tt,tt,tt,tt,tt,tt,tt,tt,tt,tt,tt,tt,tt,tt,tt,tt,ff,ff] rfl rfl (one_of HT_.out (by kernel_rfl)) (by decide) (fun K hK => ?_); refine goes_ Try.func36 (by kernel_rfl) rfl #[.slice Ao12 y264.length co12] (by rfl) rfl rfl (by (try simp only [List.map_toArray, List.map_cons, List.map_nil]); first | done | rfl | (simp only [List.length_drop, List.length_take]; rfl)) ?_; (with_reducible refine (cmp_Or_int.calls k _ _ y264 t267 _ ?side1 ?side2 A6.out).mono ?_); (case side1 => exact cw_ ((Kd.R_reads' HO266.out).2.2)); (case side2 => exact (Kd.R_reads' HO266.out).2.1); rintro e w' ⟨rfl, ⟨nd, rfl⟩⟩; refine ⟨_, rfl, ?_⟩; refine hK.out _ _ ⟨(blk_cell BK259.out 0).trans rfl, (blk_cell BK259.out 1).trans rfl, (blk_cell BK259.out 2).trans rfl, (blk_cell BK259.out 3).trans rfl, (blk_cell BK259.out 4).trans rfl, (blk_cell BK260.out 0).trans rfl, (blk_cell BK260.out 1).trans rfl, (blk_cell BK260.out 2).trans rfl, (blk_cell BK260.out 3).trans rfl, (blk_cell BK260.out 4).trans rfl⟩ (fun hHeld => ?_); clear hK K; refine norm_ (a' := ?_) ?_ ?_; rotate_left
 ·show Act.put _ (some 21) _ = _; simp only [Act.put, List.setIfInBounds_toArray, List.set_cons_zero, List.set_cons_succ, i64_w, i32_w]; rfl
 refine pure_ (i := 17) (N := some 22) (v := ?_) (a' := ?_) #[tt,tt,tt,tt,tt,tt,tt,tt,tt,tt,tt,tt,tt,tt,tt,tt,tt,tt,ff] rfl rfl (any_of HT_.out (by kernel_rfl)) (fun _ _ _ h => h) (Or.inl ⟨by rfl, ?_⟩) ?_ ?_; rotate_left
 ·intro w'; go_simp; (with_reducible rfl)
 rotate_left
 ·simp only [Act.put, List.setIfInBounds_toArray, List.set_cons_zero, List.set_cons_succ, i64_w, i32_w]; rfl
 refine pure_ (i := 18) (N := some 4) (v := ?_) (a' := ?_) #[tt,tt,tt,tt,tt,tt,tt,tt,tt,tt,tt,tt,tt,tt,tt,tt,tt,tt,tt] rfl rfl (any_of HT_.out (by kernel_rfl)) (fun _ _ _ h => h) (Or.inl ⟨by rfl, ?_⟩) ?_ ?_; rotate_left
 ·intro w'; go_simp; (with_reducible rfl)
 rotate_left
 ·simp only [Act.put, List.setIfInBounds_toArray, List.set_cons_zero, List.set_cons_succ, i64_w, i32_w]; rfl
 refine done_ (done_of HT_.out (by kernel_rfl)) ?_; try go_wp2
 go_ret; exact ⟨by first | rfl | (simp [errW_none, errW_some] <;> rfl) | (simp [*, errW_none, errW_some] <;> rfl), bl_⟩

end Go.Proofs.Ytcmafemdcikmfaa.QFnExactMergeMarks
