/- Region 21 of Table.one, which draws its order: one form of a group is added. -/
import Derived.Deep.RegionHeld3
import Derived.Deep.DeepCutAuto
import Derived.Test.YtegnmnhdpnmnpaaOneReg
namespace Go.Proofs.Ytegnmnhdpnmnpaa
set_option linter.unusedVariables false
set_option linter.unusedSimpArgs false
open Go.RowKit
set_option maxRecDepth 100000 in
set_option maxHeartbeats 16000000 in
theorem reg21_1 (w0 V : World) (t B : Nat) (ht0 : t < w0.heap.size) (c0 c1 c2 : Value) (fs : List Form) (hlen : fs.length < 100) (hT : TabIs w0 V t c0 c1 c2 fs) (alu code j n : Nat) (hj : (j : Int) < (n : Int)) (cs : Array Value)
    (hH : V.heap[B]? = some (.cells cs 5 (0, 0))) (hcs : cs[j]? = some (.int .u8 (code : Int)))
    (s1 s2 s3 s4 s5 s6 s7 s10 s14 s15 s16 s17 s18 s19 s20 s21 s22 s23 s24 s25 s26 s27 s28 s29 s30 s31 s32 s33 s34 s35 s36 s37 s38 s39 s40 s41 s42 s43 s44 s45 s46 s47 s48 s49 s50 s51 s52 s53 s54 s55 s56 s57 s58 s59 s60 s61 s62 s63 s64 s65 s66 s67 s68 s69 s70 s71 s72 s73 s74 s75 s76 s77 s78 s79 s80 s81 s82 s83 s84 s85 s86 s87 s88 s89 s90 s91 s92 s93 s94 s95 s96 s97 s98 s99 s100 s101 s102 s103 s104 s105 s106 s107 s108 s109 s110 s111 s112 s113 : Value) (Q : Exit → Act → World → Prop)
    (hQ : ∀ (x91 x92 x93 x94 x95 x96 x97 x98 x99 x100 x101 x102 x103 x104 x105 x106 x107 x108 x109 x110 x111 : Value) (w' : World), TabIs w0 w' t c0 c1 c2 (fs ++ [{ steps := [(254, 72), (255, 255), (248, code)], more := 0, op := 15, alu := alu, cc := 0 }]) → KT [some 69, some 90] V w' → Q .normal ⟨#[.pointer (some ⟨t, 0, none⟩), s1, s2, s3, s4, s5, s6, s7, .int .i64 1, .int .i64 15, s10, .slice (some ⟨B, 0, none⟩) n n, .int .i64 (j : Int), .int .i64 (alu : Int), s14, s15, s16, s17, s18, s19, s20, s21, s22, s23, s24, s25, s26, s27, s28, s29, s30, s31, s32, s33, s34, s35, s36, s37, s38, s39, s40, s41, s42, s43, s44, s45, s46, s47, s48, s49, s50, s51, s52, s53, s54, s55, s56, s57, s58, s59, s60, s61, s62, s63, s64, s65, s66, s67, s68, s69, s70, s71, s72, s73, s74, s75, s76, s77, s78, s79, s80, s81, s82, s83, s84, s85, s86, s87, s88, s89, s90, x91, x92, x93, x94, x95, x96, x97, x98, x99, x100, x101, x102, x103, x104, x105, x106, x107, x108, x109, x110, x111, s112, s113], []⟩ w') :
    Code.wp Try.prog reg21 Q ⟨#[.pointer (some ⟨t, 0, none⟩), s1, s2, s3, s4, s5, s6, s7, .int .i64 1, .int .i64 15, s10, .slice (some ⟨B, 0, none⟩) n n, .int .i64 (j : Int), .int .i64 (alu : Int), s14, s15, s16, s17, s18, s19, s20, s21, s22, s23, s24, s25, s26, s27, s28, s29, s30, s31, s32, s33, s34, s35, s36, s37, s38, s39, s40, s41, s42, s43, s44, s45, s46, s47, s48, s49, s50, s51, s52, s53, s54, s55, s56, s57, s58, s59, s60, s61, s62, s63, s64, s65, s66, s67, s68, s69, s70, s71, s72, s73, s74, s75, s76, s77, s78, s79, s80, s81, s82, s83, s84, s85, s86, s87, s88, s89, s90, s91, s92, s93, s94, s95, s96, s97, s98, s99, s100, s101, s102, s103, s104, s105, s106, s107, s108, s109, s110, s111, s112, s113], []⟩ V := by
  have HQ := Lib.hid hQ
  clear hQ
  have h0 : (0 : Int) ≤ (j : Int) := Int.natCast_nonneg _
  conv => arg 2; whnf
  refine wp_region_noPanic ?_
  refine wp_region_held_drew (S := fun w' => w'.cell? ⟨B, j, none⟩ = some (.int .u8 (code : Int))) (by kernel_rfl) ?_ (fun hHeld => ?_)
  · exact cell_of_heap (by (repeat' (with_reducible (first | apply heap_old | apply heap_drew | apply heap_drewN))); exact hH) hcs
  refine' wpAnyH_take (i := 0) (oi := _) (v := _) (by simp only [List.getElem?_toArray, List.getElem?_cons_zero]; rfl) (by kernel_rfl) (by kernel_rfl) (by kernel_rfl) (fun _ _ _ h => h) (Or.inl ⟨by rfl, ?_⟩) (by assumption) ?_
  rotate_left 1
  · (intro w hSw; (try dsimp only at hSw); go_simp); (try with_reducible rfl)
  (try simp only [Act.put, List.setIfInBounds_toArray, List.set_cons_zero, List.set_cons_succ])
  refine' wpAnyH_take (i := 1) (oi := _) (v := _) (by simp only [List.getElem?_toArray, List.getElem?_cons_succ, List.getElem?_cons_zero]; rfl) (by kernel_rfl) (by kernel_rfl) (by kernel_rfl) (fun _ _ _ h => h) (Or.inl ⟨by rfl, ?_⟩) (by assumption) ?_
  rotate_left 1
  · (intro w hSw; (try dsimp only at hSw); go_simp); (try with_reducible rfl)
  (try simp only [Act.put, List.setIfInBounds_toArray, List.set_cons_zero, List.set_cons_succ])
  refine' wpAnyH_take (i := 2) (oi := _) (v := _) (by simp only [List.getElem?_toArray, List.getElem?_cons_succ, List.getElem?_cons_zero]; rfl) (by kernel_rfl) (by kernel_rfl) (by kernel_rfl) (fun _ _ _ h => h) (Or.inl ⟨by rfl, ?_⟩) (by assumption) ?_
  rotate_left 1
  · (intro w hSw; (try dsimp only at hSw); go_simp); (try with_reducible rfl)
  (try simp only [Act.put, List.setIfInBounds_toArray, List.set_cons_zero, List.set_cons_succ])
  refine' wpAnyH_take (i := 3) (oi := _) (v := _) (by simp only [List.getElem?_toArray, List.getElem?_cons_succ, List.getElem?_cons_zero]; rfl) (by kernel_rfl) (by kernel_rfl) (by kernel_rfl) (fun _ _ _ h => h) (Or.inl ⟨by rfl, ?_⟩) (by assumption) ?_
  rotate_left 1
  · (intro w hSw; (try dsimp only at hSw); go_simp); (try with_reducible rfl)
  (try simp only [Act.put, List.setIfInBounds_toArray, List.set_cons_zero, List.set_cons_succ])
  refine' wpAnyH_take (i := 5) (oi := _) (v := _) (by simp only [List.getElem?_toArray, List.getElem?_cons_succ, List.getElem?_cons_zero]; rfl) (by kernel_rfl) (by kernel_rfl) (by kernel_rfl) (fun _ _ _ h => h) (Or.inl ⟨by rfl, ?_⟩) (by assumption) ?_
  rotate_left 1
  · (intro w hSw; (try dsimp only at hSw); go_simp); (try with_reducible rfl)
  (try simp only [Act.put, List.setIfInBounds_toArray, List.set_cons_zero, List.set_cons_succ])
  refine' wpAnyH_take (i := 8) (oi := _) (v := _) (by simp only [List.getElem?_toArray, List.getElem?_cons_succ, List.getElem?_cons_zero]; rfl) (by kernel_rfl) (by kernel_rfl) (by kernel_rfl) (fun _ _ _ h => h) (Or.inl ⟨by rfl, ?_⟩) (by assumption) ?_
  rotate_left 1
  · (intro w hSw; (try dsimp only at hSw); go_simp); (try with_reducible rfl)
  (try simp only [Act.put, List.setIfInBounds_toArray, List.set_cons_zero, List.set_cons_succ])
  refine' wpAnyH_take (i := 10) (oi := _) (v := _) (by simp only [List.getElem?_toArray, List.getElem?_cons_succ, List.getElem?_cons_zero]; rfl) (by kernel_rfl) (by kernel_rfl) (by kernel_rfl) (fun _ _ _ h => h) (Or.inl ⟨by rfl, ?_⟩) (by assumption) ?_
  rotate_left 1
  · (intro w hSw; (try dsimp only at hSw); go_simp); (try with_reducible rfl)
  (try simp only [Act.put, List.setIfInBounds_toArray, List.set_cons_zero, List.set_cons_succ])
  refine' wpAnyH_take (i := 14) (oi := _) (v := _) (by simp only [List.getElem?_toArray, List.getElem?_cons_succ, List.getElem?_cons_zero]; rfl) (by kernel_rfl) (by kernel_rfl) (by kernel_rfl) (fun _ _ _ h => h) (Or.inl ⟨by rfl, ?_⟩) (by assumption) ?_
  rotate_left 1
  · (intro w hSw; (try dsimp only at hSw); go_simp); (try with_reducible rfl)
  (try simp only [Act.put, List.setIfInBounds_toArray, List.set_cons_zero, List.set_cons_succ])
  refine' wpAnyH_take (i := 15) (oi := _) (v := _) (by simp only [List.getElem?_toArray, List.getElem?_cons_succ, List.getElem?_cons_zero]; rfl) (by kernel_rfl) (by kernel_rfl) (by kernel_rfl) (fun _ _ _ h => h) (Or.inl ⟨by rfl, ?_⟩) (by assumption) ?_
  rotate_left 1
  · (intro w hSw; (try dsimp only at hSw); go_simp); (try with_reducible rfl)
  (try simp only [Act.put, List.setIfInBounds_toArray, List.set_cons_zero, List.set_cons_succ])
  refine' wpAnyH_take (i := 16) (oi := _) (v := _) (by simp only [List.getElem?_toArray, List.getElem?_cons_succ, List.getElem?_cons_zero]; rfl) (by kernel_rfl) (by kernel_rfl) (by kernel_rfl) (fun _ _ _ h => h) (Or.inl ⟨by rfl, ?_⟩) (by assumption) ?_
  rotate_left 1
  · (intro w hSw; (try dsimp only at hSw); go_simp); (try with_reducible rfl)
  (try simp only [Act.put, List.setIfInBounds_toArray, List.set_cons_zero, List.set_cons_succ])
  refine' wpAnyH_take (i := 17) (oi := _) (v := _) (by simp only [List.getElem?_toArray, List.getElem?_cons_succ, List.getElem?_cons_zero]; rfl) (by kernel_rfl) (by kernel_rfl) (by kernel_rfl) (fun _ _ _ h => h) (Or.inl ⟨by rfl, ?_⟩) (by assumption) ?_
  rotate_left 1
  · (intro w hSw; (try dsimp only at hSw); go_simp); (try with_reducible rfl)
  (try simp only [Act.put, List.setIfInBounds_toArray, List.set_cons_zero, List.set_cons_succ])
  refine' wpAnyH_take (i := 18) (oi := _) (v := _) (by simp only [List.getElem?_toArray, List.getElem?_cons_succ, List.getElem?_cons_zero]; rfl) (by kernel_rfl) (by kernel_rfl) (by kernel_rfl) (fun _ _ _ h => h) (Or.inl ⟨by rfl, ?_⟩) (by assumption) ?_
  rotate_left 1
  · (intro w hSw; (try dsimp only at hSw); go_simp); (try with_reducible rfl)
  (try simp only [Act.put, List.setIfInBounds_toArray, List.set_cons_zero, List.set_cons_succ])
  refine wpAnyH_ready (rs := [4, 9]) (by kernel_rfl) (by simp) ?_
  refine AllReadyH.cons (o := _) (by simp only [List.getElem?_toArray, List.getElem?_cons_succ, List.getElem?_cons_zero]; rfl) (fun K hK => ?_) ?_
  · go_simp
    refine hK.out _ _ ?_ (fun hHeld => ?_)
    · exact cell_of_heap (by (repeat' (with_reducible (first | apply heap_old | apply heap_drew | apply heap_drewN))); exact hH) hcs
    clear hK K
    (try simp only [Act.put, List.setIfInBounds_toArray, List.set_cons_zero, List.set_cons_succ])
    refine' wpAnyH_take (i := 6) (oi := _) (v := _) (by simp only [List.getElem?_toArray, List.getElem?_cons_succ, List.getElem?_cons_zero]; rfl) (by kernel_rfl) (by kernel_rfl) (by kernel_rfl) (fun _ _ _ h => h) (Or.inl ⟨by rfl, ?_⟩) (by assumption) ?_
    rotate_left 1
    · (intro w hSw; (try dsimp only at hSw); go_simp); (try with_reducible rfl)
    (try simp only [Act.put, List.setIfInBounds_toArray, List.set_cons_zero, List.set_cons_succ])
    refine wpAnyH_ready (rs := [7, 9]) (by kernel_rfl) (by simp) ?_
    refine AllReadyH.cons (o := _) (by simp only [List.getElem?_toArray, List.getElem?_cons_succ, List.getElem?_cons_zero]; rfl) (fun K hK => ?_) ?_
    · go_simp
      refine hK.out _ _ ?_ (fun hHeld => ?_)
      · exact cell_of_heap (by (repeat' (with_reducible (first | apply heap_old | apply heap_drew | apply heap_drewN))); exact hH) hcs
      clear hK K
      (try simp only [Act.put, List.setIfInBounds_toArray, List.set_cons_zero, List.set_cons_succ])
      refine wpAnyH_ready (rs := [9]) (by kernel_rfl) (by simp) ?_
      refine AllReadyH.cons (o := _) (by simp only [List.getElem?_toArray, List.getElem?_cons_succ, List.getElem?_cons_zero]; rfl) (fun K hK => ?_) ?_
      · go_simp
        refine hK.out _ _ ?_ (fun hHeld => ?_)
        · exact cell_of_heap (by (repeat' (with_reducible (first | apply heap_old | apply heap_drew | apply heap_drewN))); exact hH) hcs
        clear hK K
        (try simp only [Act.put, List.setIfInBounds_toArray, List.set_cons_zero, List.set_cons_succ])
        refine' wpAnyH_take (i := 11) (oi := _) (v := _) (by simp only [List.getElem?_toArray, List.getElem?_cons_succ, List.getElem?_cons_zero]; rfl) (by kernel_rfl) (by kernel_rfl) (by kernel_rfl) (fun _ _ _ h => h) (Or.inl ⟨by rfl, ?_⟩) (by assumption) ?_
        rotate_left 1
        · (intro w hSw; (try dsimp only at hSw); go_simp); (try with_reducible rfl)
        (try simp only [Act.put, List.setIfInBounds_toArray, List.set_cons_zero, List.set_cons_succ])
        refine wpAnyH_ready (rs := [12]) (by kernel_rfl) (by simp) ?_
        refine AllReadyH.cons (o := _) (by simp only [List.getElem?_toArray, List.getElem?_cons_succ, List.getElem?_cons_zero]; rfl) (fun K hK => ?_) ?_
        · go_simp
          refine hK.out _ _ ?_ (fun hHeld => ?_)
          · exact cell_of_heap (by (repeat' (with_reducible (first | apply heap_old | apply heap_drew | apply heap_drewN))); exact hH) hcs
          clear hK K
          (try simp only [Act.put, List.setIfInBounds_toArray, List.set_cons_zero, List.set_cons_succ])
          refine wpAnyH_ready (rs := [13]) (by kernel_rfl) (by simp) ?_
          refine AllReadyH.cons (o := _) (by simp only [List.getElem?_toArray, List.getElem?_cons_succ, List.getElem?_cons_zero]; rfl) (fun K hK => ?_) ?_
          · go_simp
            (go_at_call 62; refine (is_any _ _).mono ?_; rintro e w' ⟨rfl, rfl⟩)
            go_wp2_with fail
            refine hK.out _ _ ?_ (fun hHeld => ?_)
            · exact cell_of_heap (by (repeat' (with_reducible (first | apply heap_old | apply heap_drew | apply heap_drewN))); exact hH) hcs
            clear hK K
            (try simp only [Act.put, List.setIfInBounds_toArray, List.set_cons_zero, List.set_cons_succ])
            refine wpAnyH_ready (rs := [19]) (by kernel_rfl) (by simp) ?_
            refine AllReadyH.cons (o := _) (by simp only [List.getElem?_toArray, List.getElem?_cons_succ, List.getElem?_cons_zero]; rfl) (fun K hK => ?_) ?_
            · go_simp
              refine hK.out _ _ ?_ (fun hHeld => ?_)
              · exact cell_of_heap (by (repeat' (with_reducible (first | apply heap_old | apply heap_drew | apply heap_drewN))); exact hH) hcs
              clear hK K
              (try simp only [Act.put, List.setIfInBounds_toArray, List.set_cons_zero, List.set_cons_succ])
              refine wpAnyH_ready (rs := [20]) (by kernel_rfl) (by simp) ?_
              refine AllReadyH.cons (o := _) (by simp only [List.getElem?_toArray, List.getElem?_cons_succ, List.getElem?_cons_zero]; rfl) (fun K hK => ?_) ?_
              · go_simp
                (go_at_call 61; refine (add_any w0 _ t ht0 c0 c1 c2 fs (by (repeat' (with_reducible (first | apply TabIs.drew | apply TabIs.alloc))); exact hT) hlen { steps := [(254, 72), (255, 255), (248, code)], more := 0, op := 15, alu := alu, cc := 0 } _ _ _ _ _ (by have hz := TabIs.size hT; (try simp at hz); (try simp); omega) _ rfl (by first | (refine heap_at ?_ ?_; (focus (simp; done)); (exact rfl)) | (refine heap_old _ (heap_at ?_ ?_); (focus (simp; done)); (exact rfl))) rfl rfl rfl rfl).mono ?_; rintro e W2 ⟨rfl, hT2, hk2⟩)
                go_wp2_with fail
                refine hK.out _ _ ?_ (fun hHeld => ?_)
                · exact cell_of_heap (hk2.keep _ _ (by (repeat' (with_reducible (first | apply heap_old | apply heap_drew | apply heap_drewN))); exact hH) (by simp [otag])) hcs
                clear hK K
                (try simp only [Act.put, List.setIfInBounds_toArray, List.set_cons_zero, List.set_cons_succ])
                refine wpAnyH_done (by kernel_rfl) ?_ _
                refine NoPanic.normal ?_
                exact HQ.out _ _ _ _ _ _ _ _ _ _ _ _ _ _ _ _ _ _ _ _ _ _ hT2 (KT.trans (by (repeat' (with_reducible (first | apply KT.drew | apply KT.drewN | apply KT.alloc))); exact (KT.refl _ V)) hk2)
              exact AllReadyH.nil
            exact AllReadyH.nil
          exact AllReadyH.nil
        exact AllReadyH.nil
      exact AllReadyH.nil
    refine AllReadyH.cons (o := _) (by simp only [List.getElem?_toArray, List.getElem?_cons_succ, List.getElem?_cons_zero]; rfl) (fun K hK => ?_) ?_
    · go_simp
      refine hK.out _ _ ?_ (fun hHeld => ?_)
      · exact cell_of_heap (by (repeat' (with_reducible (first | apply heap_old | apply heap_drew | apply heap_drewN))); exact hH) hcs
      clear hK K
      (try simp only [Act.put, List.setIfInBounds_toArray, List.set_cons_zero, List.set_cons_succ])
      refine' wpAnyH_take (i := 11) (oi := _) (v := _) (by simp only [List.getElem?_toArray, List.getElem?_cons_succ, List.getElem?_cons_zero]; rfl) (by kernel_rfl) (by kernel_rfl) (by kernel_rfl) (fun _ _ _ h => h) (Or.inl ⟨by rfl, ?_⟩) (by assumption) ?_
      rotate_left 1
      · (intro w hSw; (try dsimp only at hSw); go_simp); (try with_reducible rfl)
      (try simp only [Act.put, List.setIfInBounds_toArray, List.set_cons_zero, List.set_cons_succ])
      refine wpAnyH_ready (rs := [7, 12]) (by kernel_rfl) (by simp) ?_
      refine AllReadyH.cons (o := _) (by simp only [List.getElem?_toArray, List.getElem?_cons_succ, List.getElem?_cons_zero]; rfl) (fun K hK => ?_) ?_
      · go_simp
        refine hK.out _ _ ?_ (fun hHeld => ?_)
        · exact cell_of_heap (by (repeat' (with_reducible (first | apply heap_old | apply heap_drew | apply heap_drewN))); exact hH) hcs
        clear hK K
        (try simp only [Act.put, List.setIfInBounds_toArray, List.set_cons_zero, List.set_cons_succ])
        refine wpAnyH_ready (rs := [12]) (by kernel_rfl) (by simp) ?_
        refine AllReadyH.cons (o := _) (by simp only [List.getElem?_toArray, List.getElem?_cons_succ, List.getElem?_cons_zero]; rfl) (fun K hK => ?_) ?_
        · go_simp
          refine hK.out _ _ ?_ (fun hHeld => ?_)
          · exact cell_of_heap (by (repeat' (with_reducible (first | apply heap_old | apply heap_drew | apply heap_drewN))); exact hH) hcs
          clear hK K
          (try simp only [Act.put, List.setIfInBounds_toArray, List.set_cons_zero, List.set_cons_succ])
          refine wpAnyH_ready (rs := [13]) (by kernel_rfl) (by simp) ?_
          refine AllReadyH.cons (o := _) (by simp only [List.getElem?_toArray, List.getElem?_cons_succ, List.getElem?_cons_zero]; rfl) (fun K hK => ?_) ?_
          · go_simp
            (go_at_call 62; refine (is_any _ _).mono ?_; rintro e w' ⟨rfl, rfl⟩)
            go_wp2_with fail
            refine hK.out _ _ ?_ (fun hHeld => ?_)
            · exact cell_of_heap (by (repeat' (with_reducible (first | apply heap_old | apply heap_drew | apply heap_drewN))); exact hH) hcs
            clear hK K
            (try simp only [Act.put, List.setIfInBounds_toArray, List.set_cons_zero, List.set_cons_succ])
            refine wpAnyH_ready (rs := [19]) (by kernel_rfl) (by simp) ?_
            refine AllReadyH.cons (o := _) (by simp only [List.getElem?_toArray, List.getElem?_cons_succ, List.getElem?_cons_zero]; rfl) (fun K hK => ?_) ?_
            · go_simp
              refine hK.out _ _ ?_ (fun hHeld => ?_)
              · exact cell_of_heap (by (repeat' (with_reducible (first | apply heap_old | apply heap_drew | apply heap_drewN))); exact hH) hcs
              clear hK K
              (try simp only [Act.put, List.setIfInBounds_toArray, List.set_cons_zero, List.set_cons_succ])
              refine wpAnyH_ready (rs := [20]) (by kernel_rfl) (by simp) ?_
              refine AllReadyH.cons (o := _) (by simp only [List.getElem?_toArray, List.getElem?_cons_succ, List.getElem?_cons_zero]; rfl) (fun K hK => ?_) ?_
              · go_simp
                (go_at_call 61; refine (add_any w0 _ t ht0 c0 c1 c2 fs (by (repeat' (with_reducible (first | apply TabIs.drew | apply TabIs.alloc))); exact hT) hlen { steps := [(254, 72), (255, 255), (248, code)], more := 0, op := 15, alu := alu, cc := 0 } _ _ _ _ _ (by have hz := TabIs.size hT; (try simp at hz); (try simp); omega) _ rfl (by first | (refine heap_at ?_ ?_; (focus (simp; done)); (exact rfl)) | (refine heap_old _ (heap_at ?_ ?_); (focus (simp; done)); (exact rfl))) rfl rfl rfl rfl).mono ?_; rintro e W2 ⟨rfl, hT2, hk2⟩)
                go_wp2_with fail
                refine hK.out _ _ ?_ (fun hHeld => ?_)
                · exact cell_of_heap (hk2.keep _ _ (by (repeat' (with_reducible (first | apply heap_old | apply heap_drew | apply heap_drewN))); exact hH) (by simp [otag])) hcs
                clear hK K
                (try simp only [Act.put, List.setIfInBounds_toArray, List.set_cons_zero, List.set_cons_succ])
                refine wpAnyH_done (by kernel_rfl) ?_ _
                refine NoPanic.normal ?_
                exact HQ.out _ _ _ _ _ _ _ _ _ _ _ _ _ _ _ _ _ _ _ _ _ _ hT2 (KT.trans (by (repeat' (with_reducible (first | apply KT.drew | apply KT.drewN | apply KT.alloc))); exact (KT.refl _ V)) hk2)
              exact AllReadyH.nil
            exact AllReadyH.nil
          exact AllReadyH.nil
        exact AllReadyH.nil
      refine AllReadyH.cons (o := _) (by simp only [List.getElem?_toArray, List.getElem?_cons_succ, List.getElem?_cons_zero]; rfl) (fun K hK => ?_) ?_
      · go_simp
        refine hK.out _ _ ?_ (fun hHeld => ?_)
        · exact cell_of_heap (by (repeat' (with_reducible (first | apply heap_old | apply heap_drew | apply heap_drewN))); exact hH) hcs
        clear hK K
        (try simp only [Act.put, List.setIfInBounds_toArray, List.set_cons_zero, List.set_cons_succ])
        refine wpAnyH_ready (rs := [7, 13]) (by kernel_rfl) (by simp) ?_
        refine AllReadyH.cons (o := _) (by simp only [List.getElem?_toArray, List.getElem?_cons_succ, List.getElem?_cons_zero]; rfl) (fun K hK => ?_) ?_
        · go_simp
          refine hK.out _ _ ?_ (fun hHeld => ?_)
          · exact cell_of_heap (by (repeat' (with_reducible (first | apply heap_old | apply heap_drew | apply heap_drewN))); exact hH) hcs
          clear hK K
          (try simp only [Act.put, List.setIfInBounds_toArray, List.set_cons_zero, List.set_cons_succ])
          refine wpAnyH_ready (rs := [13]) (by kernel_rfl) (by simp) ?_
          refine AllReadyH.cons (o := _) (by simp only [List.getElem?_toArray, List.getElem?_cons_succ, List.getElem?_cons_zero]; rfl) (fun K hK => ?_) ?_
          · go_simp
            (go_at_call 62; refine (is_any _ _).mono ?_; rintro e w' ⟨rfl, rfl⟩)
            go_wp2_with fail
            refine hK.out _ _ ?_ (fun hHeld => ?_)
            · exact cell_of_heap (by (repeat' (with_reducible (first | apply heap_old | apply heap_drew | apply heap_drewN))); exact hH) hcs
            clear hK K
            (try simp only [Act.put, List.setIfInBounds_toArray, List.set_cons_zero, List.set_cons_succ])
            refine wpAnyH_ready (rs := [19]) (by kernel_rfl) (by simp) ?_
            refine AllReadyH.cons (o := _) (by simp only [List.getElem?_toArray, List.getElem?_cons_succ, List.getElem?_cons_zero]; rfl) (fun K hK => ?_) ?_
            · go_simp
              refine hK.out _ _ ?_ (fun hHeld => ?_)
              · exact cell_of_heap (by (repeat' (with_reducible (first | apply heap_old | apply heap_drew | apply heap_drewN))); exact hH) hcs
              clear hK K
              (try simp only [Act.put, List.setIfInBounds_toArray, List.set_cons_zero, List.set_cons_succ])
              refine wpAnyH_ready (rs := [20]) (by kernel_rfl) (by simp) ?_
              refine AllReadyH.cons (o := _) (by simp only [List.getElem?_toArray, List.getElem?_cons_succ, List.getElem?_cons_zero]; rfl) (fun K hK => ?_) ?_
              · go_simp
                (go_at_call 61; refine (add_any w0 _ t ht0 c0 c1 c2 fs (by (repeat' (with_reducible (first | apply TabIs.drew | apply TabIs.alloc))); exact hT) hlen { steps := [(254, 72), (255, 255), (248, code)], more := 0, op := 15, alu := alu, cc := 0 } _ _ _ _ _ (by have hz := TabIs.size hT; (try simp at hz); (try simp); omega) _ rfl (by first | (refine heap_at ?_ ?_; (focus (simp; done)); (exact rfl)) | (refine heap_old _ (heap_at ?_ ?_); (focus (simp; done)); (exact rfl))) rfl rfl rfl rfl).mono ?_; rintro e W2 ⟨rfl, hT2, hk2⟩)
                go_wp2_with fail
                refine hK.out _ _ ?_ (fun hHeld => ?_)
                · exact cell_of_heap (hk2.keep _ _ (by (repeat' (with_reducible (first | apply heap_old | apply heap_drew | apply heap_drewN))); exact hH) (by simp [otag])) hcs
                clear hK K
                (try simp only [Act.put, List.setIfInBounds_toArray, List.set_cons_zero, List.set_cons_succ])
                refine wpAnyH_done (by kernel_rfl) ?_ _
                refine NoPanic.normal ?_
                exact HQ.out _ _ _ _ _ _ _ _ _ _ _ _ _ _ _ _ _ _ _ _ _ _ hT2 (KT.trans (by (repeat' (with_reducible (first | apply KT.drew | apply KT.drewN | apply KT.alloc))); exact (KT.refl _ V)) hk2)
              exact AllReadyH.nil
            exact AllReadyH.nil
          exact AllReadyH.nil
        refine AllReadyH.cons (o := _) (by simp only [List.getElem?_toArray, List.getElem?_cons_succ, List.getElem?_cons_zero]; rfl) (fun K hK => ?_) ?_
        · go_simp
          (go_at_call 62; refine (is_any _ _).mono ?_; rintro e w' ⟨rfl, rfl⟩)
          go_wp2_with fail
          refine hK.out _ _ ?_ (fun hHeld => ?_)
          · exact cell_of_heap (by (repeat' (with_reducible (first | apply heap_old | apply heap_drew | apply heap_drewN))); exact hH) hcs
          clear hK K
          (try simp only [Act.put, List.setIfInBounds_toArray, List.set_cons_zero, List.set_cons_succ])
          refine wpAnyH_ready (rs := [7, 19]) (by kernel_rfl) (by simp) ?_
          refine AllReadyH.cons (o := _) (by simp only [List.getElem?_toArray, List.getElem?_cons_succ, List.getElem?_cons_zero]; rfl) (fun K hK => ?_) ?_
          · go_simp
            refine hK.out _ _ ?_ (fun hHeld => ?_)
            · exact cell_of_heap (by (repeat' (with_reducible (first | apply heap_old | apply heap_drew | apply heap_drewN))); exact hH) hcs
            clear hK K
            (try simp only [Act.put, List.setIfInBounds_toArray, List.set_cons_zero, List.set_cons_succ])
            refine wpAnyH_ready (rs := [19]) (by kernel_rfl) (by simp) ?_
            refine AllReadyH.cons (o := _) (by simp only [List.getElem?_toArray, List.getElem?_cons_succ, List.getElem?_cons_zero]; rfl) (fun K hK => ?_) ?_
            · go_simp
              refine hK.out _ _ ?_ (fun hHeld => ?_)
              · exact cell_of_heap (by (repeat' (with_reducible (first | apply heap_old | apply heap_drew | apply heap_drewN))); exact hH) hcs
              clear hK K
              (try simp only [Act.put, List.setIfInBounds_toArray, List.set_cons_zero, List.set_cons_succ])
              refine wpAnyH_ready (rs := [20]) (by kernel_rfl) (by simp) ?_
              refine AllReadyH.cons (o := _) (by simp only [List.getElem?_toArray, List.getElem?_cons_succ, List.getElem?_cons_zero]; rfl) (fun K hK => ?_) ?_
              · go_simp
                (go_at_call 61; refine (add_any w0 _ t ht0 c0 c1 c2 fs (by (repeat' (with_reducible (first | apply TabIs.drew | apply TabIs.alloc))); exact hT) hlen { steps := [(254, 72), (255, 255), (248, code)], more := 0, op := 15, alu := alu, cc := 0 } _ _ _ _ _ (by have hz := TabIs.size hT; (try simp at hz); (try simp); omega) _ rfl (by first | (refine heap_at ?_ ?_; (focus (simp; done)); (exact rfl)) | (refine heap_old _ (heap_at ?_ ?_); (focus (simp; done)); (exact rfl))) rfl rfl rfl rfl).mono ?_; rintro e W2 ⟨rfl, hT2, hk2⟩)
                go_wp2_with fail
                refine hK.out _ _ ?_ (fun hHeld => ?_)
                · exact cell_of_heap (hk2.keep _ _ (by (repeat' (with_reducible (first | apply heap_old | apply heap_drew | apply heap_drewN))); exact hH) (by simp [otag])) hcs
                clear hK K
                (try simp only [Act.put, List.setIfInBounds_toArray, List.set_cons_zero, List.set_cons_succ])
                refine wpAnyH_done (by kernel_rfl) ?_ _
                refine NoPanic.normal ?_
                exact HQ.out _ _ _ _ _ _ _ _ _ _ _ _ _ _ _ _ _ _ _ _ _ _ hT2 (KT.trans (by (repeat' (with_reducible (first | apply KT.drew | apply KT.drewN | apply KT.alloc))); exact (KT.refl _ V)) hk2)
              exact AllReadyH.nil
            exact AllReadyH.nil
          refine AllReadyH.cons (o := _) (by simp only [List.getElem?_toArray, List.getElem?_cons_succ, List.getElem?_cons_zero]; rfl) (fun K hK => ?_) ?_
          · go_simp
            refine hK.out _ _ ?_ (fun hHeld => ?_)
            · exact cell_of_heap (by (repeat' (with_reducible (first | apply heap_old | apply heap_drew | apply heap_drewN))); exact hH) hcs
            clear hK K
            (try simp only [Act.put, List.setIfInBounds_toArray, List.set_cons_zero, List.set_cons_succ])
            refine wpAnyH_ready (rs := [7]) (by kernel_rfl) (by simp) ?_
            refine AllReadyH.cons (o := _) (by simp only [List.getElem?_toArray, List.getElem?_cons_succ, List.getElem?_cons_zero]; rfl) (fun K hK => ?_) ?_
            · go_simp
              refine hK.out _ _ ?_ (fun hHeld => ?_)
              · exact cell_of_heap (by (repeat' (with_reducible (first | apply heap_old | apply heap_drew | apply heap_drewN))); exact hH) hcs
              clear hK K
              (try simp only [Act.put, List.setIfInBounds_toArray, List.set_cons_zero, List.set_cons_succ])
              refine wpAnyH_ready (rs := [20]) (by kernel_rfl) (by simp) ?_
              refine AllReadyH.cons (o := _) (by simp only [List.getElem?_toArray, List.getElem?_cons_succ, List.getElem?_cons_zero]; rfl) (fun K hK => ?_) ?_
              · go_simp
                (go_at_call 61; refine (add_any w0 _ t ht0 c0 c1 c2 fs (by (repeat' (with_reducible (first | apply TabIs.drew | apply TabIs.alloc))); exact hT) hlen { steps := [(254, 72), (255, 255), (248, code)], more := 0, op := 15, alu := alu, cc := 0 } _ _ _ _ _ (by have hz := TabIs.size hT; (try simp at hz); (try simp); omega) _ rfl (by first | (refine heap_at ?_ ?_; (focus (simp; done)); (exact rfl)) | (refine heap_old _ (heap_at ?_ ?_); (focus (simp; done)); (exact rfl))) rfl rfl rfl rfl).mono ?_; rintro e W2 ⟨rfl, hT2, hk2⟩)
                go_wp2_with fail
                refine hK.out _ _ ?_ (fun hHeld => ?_)
                · exact cell_of_heap (hk2.keep _ _ (by (repeat' (with_reducible (first | apply heap_old | apply heap_drew | apply heap_drewN))); exact hH) (by simp [otag])) hcs
                clear hK K
                (try simp only [Act.put, List.setIfInBounds_toArray, List.set_cons_zero, List.set_cons_succ])
                refine wpAnyH_done (by kernel_rfl) ?_ _
                refine NoPanic.normal ?_
                exact HQ.out _ _ _ _ _ _ _ _ _ _ _ _ _ _ _ _ _ _ _ _ _ _ hT2 (KT.trans (by (repeat' (with_reducible (first | apply KT.drew | apply KT.drewN | apply KT.alloc))); exact (KT.refl _ V)) hk2)
              exact AllReadyH.nil
            exact AllReadyH.nil
          exact AllReadyH.nil
        exact AllReadyH.nil
      exact AllReadyH.nil
    exact AllReadyH.nil
  refine AllReadyH.cons (o := _) (by simp only [List.getElem?_toArray, List.getElem?_cons_succ, List.getElem?_cons_zero]; rfl) (fun K hK => ?_) ?_
  · go_simp
    refine hK.out _ _ ?_ (fun hHeld => ?_)
    · exact cell_of_heap (by (repeat' (with_reducible (first | apply heap_old | apply heap_drew | apply heap_drewN))); exact hH) hcs
    clear hK K
    (try simp only [Act.put, List.setIfInBounds_toArray, List.set_cons_zero, List.set_cons_succ])
    refine' wpAnyH_take (i := 11) (oi := _) (v := _) (by simp only [List.getElem?_toArray, List.getElem?_cons_succ, List.getElem?_cons_zero]; rfl) (by kernel_rfl) (by kernel_rfl) (by kernel_rfl) (fun _ _ _ h => h) (Or.inl ⟨by rfl, ?_⟩) (by assumption) ?_
    rotate_left 1
    · (intro w hSw; (try dsimp only at hSw); go_simp); (try with_reducible rfl)
    (try simp only [Act.put, List.setIfInBounds_toArray, List.set_cons_zero, List.set_cons_succ])
    refine wpAnyH_ready (rs := [4, 12]) (by kernel_rfl) (by simp) ?_
    refine AllReadyH.cons (o := _) (by simp only [List.getElem?_toArray, List.getElem?_cons_succ, List.getElem?_cons_zero]; rfl) (fun K hK => ?_) ?_
    · go_simp
      refine hK.out _ _ ?_ (fun hHeld => ?_)
      · exact cell_of_heap (by (repeat' (with_reducible (first | apply heap_old | apply heap_drew | apply heap_drewN))); exact hH) hcs
      clear hK K
      (try simp only [Act.put, List.setIfInBounds_toArray, List.set_cons_zero, List.set_cons_succ])
      refine' wpAnyH_take (i := 6) (oi := _) (v := _) (by simp only [List.getElem?_toArray, List.getElem?_cons_succ, List.getElem?_cons_zero]; rfl) (by kernel_rfl) (by kernel_rfl) (by kernel_rfl) (fun _ _ _ h => h) (Or.inl ⟨by rfl, ?_⟩) (by assumption) ?_
      rotate_left 1
      · (intro w hSw; (try dsimp only at hSw); go_simp); (try with_reducible rfl)
      (try simp only [Act.put, List.setIfInBounds_toArray, List.set_cons_zero, List.set_cons_succ])
      refine wpAnyH_ready (rs := [7, 12]) (by kernel_rfl) (by simp) ?_
      refine AllReadyH.cons (o := _) (by simp only [List.getElem?_toArray, List.getElem?_cons_succ, List.getElem?_cons_zero]; rfl) (fun K hK => ?_) ?_
      · go_simp
        refine hK.out _ _ ?_ (fun hHeld => ?_)
        · exact cell_of_heap (by (repeat' (with_reducible (first | apply heap_old | apply heap_drew | apply heap_drewN))); exact hH) hcs
        clear hK K
        (try simp only [Act.put, List.setIfInBounds_toArray, List.set_cons_zero, List.set_cons_succ])
        refine wpAnyH_ready (rs := [12]) (by kernel_rfl) (by simp) ?_
        refine AllReadyH.cons (o := _) (by simp only [List.getElem?_toArray, List.getElem?_cons_succ, List.getElem?_cons_zero]; rfl) (fun K hK => ?_) ?_
        · go_simp
          refine hK.out _ _ ?_ (fun hHeld => ?_)
          · exact cell_of_heap (by (repeat' (with_reducible (first | apply heap_old | apply heap_drew | apply heap_drewN))); exact hH) hcs
          clear hK K
          (try simp only [Act.put, List.setIfInBounds_toArray, List.set_cons_zero, List.set_cons_succ])
          refine wpAnyH_ready (rs := [13]) (by kernel_rfl) (by simp) ?_
          refine AllReadyH.cons (o := _) (by simp only [List.getElem?_toArray, List.getElem?_cons_succ, List.getElem?_cons_zero]; rfl) (fun K hK => ?_) ?_
          · go_simp
            (go_at_call 62; refine (is_any _ _).mono ?_; rintro e w' ⟨rfl, rfl⟩)
            go_wp2_with fail
            refine hK.out _ _ ?_ (fun hHeld => ?_)
            · exact cell_of_heap (by (repeat' (with_reducible (first | apply heap_old | apply heap_drew | apply heap_drewN))); exact hH) hcs
            clear hK K
            (try simp only [Act.put, List.setIfInBounds_toArray, List.set_cons_zero, List.set_cons_succ])
            refine wpAnyH_ready (rs := [19]) (by kernel_rfl) (by simp) ?_
            refine AllReadyH.cons (o := _) (by simp only [List.getElem?_toArray, List.getElem?_cons_succ, List.getElem?_cons_zero]; rfl) (fun K hK => ?_) ?_
            · go_simp
              refine hK.out _ _ ?_ (fun hHeld => ?_)
              · exact cell_of_heap (by (repeat' (with_reducible (first | apply heap_old | apply heap_drew | apply heap_drewN))); exact hH) hcs
              clear hK K
              (try simp only [Act.put, List.setIfInBounds_toArray, List.set_cons_zero, List.set_cons_succ])
              refine wpAnyH_ready (rs := [20]) (by kernel_rfl) (by simp) ?_
              refine AllReadyH.cons (o := _) (by simp only [List.getElem?_toArray, List.getElem?_cons_succ, List.getElem?_cons_zero]; rfl) (fun K hK => ?_) ?_
              · go_simp
                (go_at_call 61; refine (add_any w0 _ t ht0 c0 c1 c2 fs (by (repeat' (with_reducible (first | apply TabIs.drew | apply TabIs.alloc))); exact hT) hlen { steps := [(254, 72), (255, 255), (248, code)], more := 0, op := 15, alu := alu, cc := 0 } _ _ _ _ _ (by have hz := TabIs.size hT; (try simp at hz); (try simp); omega) _ rfl (by first | (refine heap_at ?_ ?_; (focus (simp; done)); (exact rfl)) | (refine heap_old _ (heap_at ?_ ?_); (focus (simp; done)); (exact rfl))) rfl rfl rfl rfl).mono ?_; rintro e W2 ⟨rfl, hT2, hk2⟩)
                go_wp2_with fail
                refine hK.out _ _ ?_ (fun hHeld => ?_)
                · exact cell_of_heap (hk2.keep _ _ (by (repeat' (with_reducible (first | apply heap_old | apply heap_drew | apply heap_drewN))); exact hH) (by simp [otag])) hcs
                clear hK K
                (try simp only [Act.put, List.setIfInBounds_toArray, List.set_cons_zero, List.set_cons_succ])
                refine wpAnyH_done (by kernel_rfl) ?_ _
                refine NoPanic.normal ?_
                exact HQ.out _ _ _ _ _ _ _ _ _ _ _ _ _ _ _ _ _ _ _ _ _ _ hT2 (KT.trans (by (repeat' (with_reducible (first | apply KT.drew | apply KT.drewN | apply KT.alloc))); exact (KT.refl _ V)) hk2)
              exact AllReadyH.nil
            exact AllReadyH.nil
          exact AllReadyH.nil
        exact AllReadyH.nil
      refine AllReadyH.cons (o := _) (by simp only [List.getElem?_toArray, List.getElem?_cons_succ, List.getElem?_cons_zero]; rfl) (fun K hK => ?_) ?_
      · go_simp
        refine hK.out _ _ ?_ (fun hHeld => ?_)
        · exact cell_of_heap (by (repeat' (with_reducible (first | apply heap_old | apply heap_drew | apply heap_drewN))); exact hH) hcs
        clear hK K
        (try simp only [Act.put, List.setIfInBounds_toArray, List.set_cons_zero, List.set_cons_succ])
        refine wpAnyH_ready (rs := [7, 13]) (by kernel_rfl) (by simp) ?_
        refine AllReadyH.cons (o := _) (by simp only [List.getElem?_toArray, List.getElem?_cons_succ, List.getElem?_cons_zero]; rfl) (fun K hK => ?_) ?_
        · go_simp
          refine hK.out _ _ ?_ (fun hHeld => ?_)
          · exact cell_of_heap (by (repeat' (with_reducible (first | apply heap_old | apply heap_drew | apply heap_drewN))); exact hH) hcs
          clear hK K
          (try simp only [Act.put, List.setIfInBounds_toArray, List.set_cons_zero, List.set_cons_succ])
          refine wpAnyH_ready (rs := [13]) (by kernel_rfl) (by simp) ?_
          refine AllReadyH.cons (o := _) (by simp only [List.getElem?_toArray, List.getElem?_cons_succ, List.getElem?_cons_zero]; rfl) (fun K hK => ?_) ?_
          · go_simp
            (go_at_call 62; refine (is_any _ _).mono ?_; rintro e w' ⟨rfl, rfl⟩)
            go_wp2_with fail
            refine hK.out _ _ ?_ (fun hHeld => ?_)
            · exact cell_of_heap (by (repeat' (with_reducible (first | apply heap_old | apply heap_drew | apply heap_drewN))); exact hH) hcs
            clear hK K
            (try simp only [Act.put, List.setIfInBounds_toArray, List.set_cons_zero, List.set_cons_succ])
            refine wpAnyH_ready (rs := [19]) (by kernel_rfl) (by simp) ?_
            refine AllReadyH.cons (o := _) (by simp only [List.getElem?_toArray, List.getElem?_cons_succ, List.getElem?_cons_zero]; rfl) (fun K hK => ?_) ?_
            · go_simp
              refine hK.out _ _ ?_ (fun hHeld => ?_)
              · exact cell_of_heap (by (repeat' (with_reducible (first | apply heap_old | apply heap_drew | apply heap_drewN))); exact hH) hcs
              clear hK K
              (try simp only [Act.put, List.setIfInBounds_toArray, List.set_cons_zero, List.set_cons_succ])
              refine wpAnyH_ready (rs := [20]) (by kernel_rfl) (by simp) ?_
              refine AllReadyH.cons (o := _) (by simp only [List.getElem?_toArray, List.getElem?_cons_succ, List.getElem?_cons_zero]; rfl) (fun K hK => ?_) ?_
              · go_simp
                (go_at_call 61; refine (add_any w0 _ t ht0 c0 c1 c2 fs (by (repeat' (with_reducible (first | apply TabIs.drew | apply TabIs.alloc))); exact hT) hlen { steps := [(254, 72), (255, 255), (248, code)], more := 0, op := 15, alu := alu, cc := 0 } _ _ _ _ _ (by have hz := TabIs.size hT; (try simp at hz); (try simp); omega) _ rfl (by first | (refine heap_at ?_ ?_; (focus (simp; done)); (exact rfl)) | (refine heap_old _ (heap_at ?_ ?_); (focus (simp; done)); (exact rfl))) rfl rfl rfl rfl).mono ?_; rintro e W2 ⟨rfl, hT2, hk2⟩)
                go_wp2_with fail
                refine hK.out _ _ ?_ (fun hHeld => ?_)
                · exact cell_of_heap (hk2.keep _ _ (by (repeat' (with_reducible (first | apply heap_old | apply heap_drew | apply heap_drewN))); exact hH) (by simp [otag])) hcs
                clear hK K
                (try simp only [Act.put, List.setIfInBounds_toArray, List.set_cons_zero, List.set_cons_succ])
                refine wpAnyH_done (by kernel_rfl) ?_ _
                refine NoPanic.normal ?_
                exact HQ.out _ _ _ _ _ _ _ _ _ _ _ _ _ _ _ _ _ _ _ _ _ _ hT2 (KT.trans (by (repeat' (with_reducible (first | apply KT.drew | apply KT.drewN | apply KT.alloc))); exact (KT.refl _ V)) hk2)
              exact AllReadyH.nil
            exact AllReadyH.nil
          exact AllReadyH.nil
        refine AllReadyH.cons (o := _) (by simp only [List.getElem?_toArray, List.getElem?_cons_succ, List.getElem?_cons_zero]; rfl) (fun K hK => ?_) ?_
        · go_simp
          (go_at_call 62; refine (is_any _ _).mono ?_; rintro e w' ⟨rfl, rfl⟩)
          go_wp2_with fail
          refine hK.out _ _ ?_ (fun hHeld => ?_)
          · exact cell_of_heap (by (repeat' (with_reducible (first | apply heap_old | apply heap_drew | apply heap_drewN))); exact hH) hcs
          clear hK K
          (try simp only [Act.put, List.setIfInBounds_toArray, List.set_cons_zero, List.set_cons_succ])
          refine wpAnyH_ready (rs := [7, 19]) (by kernel_rfl) (by simp) ?_
          refine AllReadyH.cons (o := _) (by simp only [List.getElem?_toArray, List.getElem?_cons_succ, List.getElem?_cons_zero]; rfl) (fun K hK => ?_) ?_
          · go_simp
            refine hK.out _ _ ?_ (fun hHeld => ?_)
            · exact cell_of_heap (by (repeat' (with_reducible (first | apply heap_old | apply heap_drew | apply heap_drewN))); exact hH) hcs
            clear hK K
            (try simp only [Act.put, List.setIfInBounds_toArray, List.set_cons_zero, List.set_cons_succ])
            refine wpAnyH_ready (rs := [19]) (by kernel_rfl) (by simp) ?_
            refine AllReadyH.cons (o := _) (by simp only [List.getElem?_toArray, List.getElem?_cons_succ, List.getElem?_cons_zero]; rfl) (fun K hK => ?_) ?_
            · go_simp
              refine hK.out _ _ ?_ (fun hHeld => ?_)
              · exact cell_of_heap (by (repeat' (with_reducible (first | apply heap_old | apply heap_drew | apply heap_drewN))); exact hH) hcs
              clear hK K
              (try simp only [Act.put, List.setIfInBounds_toArray, List.set_cons_zero, List.set_cons_succ])
              refine wpAnyH_ready (rs := [20]) (by kernel_rfl) (by simp) ?_
              refine AllReadyH.cons (o := _) (by simp only [List.getElem?_toArray, List.getElem?_cons_succ, List.getElem?_cons_zero]; rfl) (fun K hK => ?_) ?_
              · go_simp
                (go_at_call 61; refine (add_any w0 _ t ht0 c0 c1 c2 fs (by (repeat' (with_reducible (first | apply TabIs.drew | apply TabIs.alloc))); exact hT) hlen { steps := [(254, 72), (255, 255), (248, code)], more := 0, op := 15, alu := alu, cc := 0 } _ _ _ _ _ (by have hz := TabIs.size hT; (try simp at hz); (try simp); omega) _ rfl (by first | (refine heap_at ?_ ?_; (focus (simp; done)); (exact rfl)) | (refine heap_old _ (heap_at ?_ ?_); (focus (simp; done)); (exact rfl))) rfl rfl rfl rfl).mono ?_; rintro e W2 ⟨rfl, hT2, hk2⟩)
                go_wp2_with fail
                refine hK.out _ _ ?_ (fun hHeld => ?_)
                · exact cell_of_heap (hk2.keep _ _ (by (repeat' (with_reducible (first | apply heap_old | apply heap_drew | apply heap_drewN))); exact hH) (by simp [otag])) hcs
                clear hK K
                (try simp only [Act.put, List.setIfInBounds_toArray, List.set_cons_zero, List.set_cons_succ])
                refine wpAnyH_done (by kernel_rfl) ?_ _
                refine NoPanic.normal ?_
                exact HQ.out _ _ _ _ _ _ _ _ _ _ _ _ _ _ _ _ _ _ _ _ _ _ hT2 (KT.trans (by (repeat' (with_reducible (first | apply KT.drew | apply KT.drewN | apply KT.alloc))); exact (KT.refl _ V)) hk2)
              exact AllReadyH.nil
            exact AllReadyH.nil
          refine AllReadyH.cons (o := _) (by simp only [List.getElem?_toArray, List.getElem?_cons_succ, List.getElem?_cons_zero]; rfl) (fun K hK => ?_) ?_
          · go_simp
            refine hK.out _ _ ?_ (fun hHeld => ?_)
            · exact cell_of_heap (by (repeat' (with_reducible (first | apply heap_old | apply heap_drew | apply heap_drewN))); exact hH) hcs
            clear hK K
            (try simp only [Act.put, List.setIfInBounds_toArray, List.set_cons_zero, List.set_cons_succ])
            refine wpAnyH_ready (rs := [7]) (by kernel_rfl) (by simp) ?_
            refine AllReadyH.cons (o := _) (by simp only [List.getElem?_toArray, List.getElem?_cons_succ, List.getElem?_cons_zero]; rfl) (fun K hK => ?_) ?_
            · go_simp
              refine hK.out _ _ ?_ (fun hHeld => ?_)
              · exact cell_of_heap (by (repeat' (with_reducible (first | apply heap_old | apply heap_drew | apply heap_drewN))); exact hH) hcs
              clear hK K
              (try simp only [Act.put, List.setIfInBounds_toArray, List.set_cons_zero, List.set_cons_succ])
              refine wpAnyH_ready (rs := [20]) (by kernel_rfl) (by simp) ?_
              refine AllReadyH.cons (o := _) (by simp only [List.getElem?_toArray, List.getElem?_cons_succ, List.getElem?_cons_zero]; rfl) (fun K hK => ?_) ?_
              · go_simp
                (go_at_call 61; refine (add_any w0 _ t ht0 c0 c1 c2 fs (by (repeat' (with_reducible (first | apply TabIs.drew | apply TabIs.alloc))); exact hT) hlen { steps := [(254, 72), (255, 255), (248, code)], more := 0, op := 15, alu := alu, cc := 0 } _ _ _ _ _ (by have hz := TabIs.size hT; (try simp at hz); (try simp); omega) _ rfl (by first | (refine heap_at ?_ ?_; (focus (simp; done)); (exact rfl)) | (refine heap_old _ (heap_at ?_ ?_); (focus (simp; done)); (exact rfl))) rfl rfl rfl rfl).mono ?_; rintro e W2 ⟨rfl, hT2, hk2⟩)
                go_wp2_with fail
                refine hK.out _ _ ?_ (fun hHeld => ?_)
                · exact cell_of_heap (hk2.keep _ _ (by (repeat' (with_reducible (first | apply heap_old | apply heap_drew | apply heap_drewN))); exact hH) (by simp [otag])) hcs
                clear hK K
                (try simp only [Act.put, List.setIfInBounds_toArray, List.set_cons_zero, List.set_cons_succ])
                refine wpAnyH_done (by kernel_rfl) ?_ _
                refine NoPanic.normal ?_
                exact HQ.out _ _ _ _ _ _ _ _ _ _ _ _ _ _ _ _ _ _ _ _ _ _ hT2 (KT.trans (by (repeat' (with_reducible (first | apply KT.drew | apply KT.drewN | apply KT.alloc))); exact (KT.refl _ V)) hk2)
              exact AllReadyH.nil
            exact AllReadyH.nil
          exact AllReadyH.nil
        exact AllReadyH.nil
      exact AllReadyH.nil
    refine AllReadyH.cons (o := _) (by simp only [List.getElem?_toArray, List.getElem?_cons_succ, List.getElem?_cons_zero]; rfl) (fun K hK => ?_) ?_
    · go_simp
      refine hK.out _ _ ?_ (fun hHeld => ?_)
      · exact cell_of_heap (by (repeat' (with_reducible (first | apply heap_old | apply heap_drew | apply heap_drewN))); exact hH) hcs
      clear hK K
      (try simp only [Act.put, List.setIfInBounds_toArray, List.set_cons_zero, List.set_cons_succ])
      refine wpAnyH_ready (rs := [4, 13]) (by kernel_rfl) (by simp) ?_
      refine AllReadyH.cons (o := _) (by simp only [List.getElem?_toArray, List.getElem?_cons_succ, List.getElem?_cons_zero]; rfl) (fun K hK => ?_) ?_
      · go_simp
        refine hK.out _ _ ?_ (fun hHeld => ?_)
        · exact cell_of_heap (by (repeat' (with_reducible (first | apply heap_old | apply heap_drew | apply heap_drewN))); exact hH) hcs
        clear hK K
        (try simp only [Act.put, List.setIfInBounds_toArray, List.set_cons_zero, List.set_cons_succ])
        refine' wpAnyH_take (i := 6) (oi := _) (v := _) (by simp only [List.getElem?_toArray, List.getElem?_cons_succ, List.getElem?_cons_zero]; rfl) (by kernel_rfl) (by kernel_rfl) (by kernel_rfl) (fun _ _ _ h => h) (Or.inl ⟨by rfl, ?_⟩) (by assumption) ?_
        rotate_left 1
        · (intro w hSw; (try dsimp only at hSw); go_simp); (try with_reducible rfl)
        (try simp only [Act.put, List.setIfInBounds_toArray, List.set_cons_zero, List.set_cons_succ])
        refine wpAnyH_ready (rs := [7, 13]) (by kernel_rfl) (by simp) ?_
        refine AllReadyH.cons (o := _) (by simp only [List.getElem?_toArray, List.getElem?_cons_succ, List.getElem?_cons_zero]; rfl) (fun K hK => ?_) ?_
        · go_simp
          refine hK.out _ _ ?_ (fun hHeld => ?_)
          · exact cell_of_heap (by (repeat' (with_reducible (first | apply heap_old | apply heap_drew | apply heap_drewN))); exact hH) hcs
          clear hK K
          (try simp only [Act.put, List.setIfInBounds_toArray, List.set_cons_zero, List.set_cons_succ])
          refine wpAnyH_ready (rs := [13]) (by kernel_rfl) (by simp) ?_
          refine AllReadyH.cons (o := _) (by simp only [List.getElem?_toArray, List.getElem?_cons_succ, List.getElem?_cons_zero]; rfl) (fun K hK => ?_) ?_
          · go_simp
            (go_at_call 62; refine (is_any _ _).mono ?_; rintro e w' ⟨rfl, rfl⟩)
            go_wp2_with fail
            refine hK.out _ _ ?_ (fun hHeld => ?_)
            · exact cell_of_heap (by (repeat' (with_reducible (first | apply heap_old | apply heap_drew | apply heap_drewN))); exact hH) hcs
            clear hK K
            (try simp only [Act.put, List.setIfInBounds_toArray, List.set_cons_zero, List.set_cons_succ])
            refine wpAnyH_ready (rs := [19]) (by kernel_rfl) (by simp) ?_
            refine AllReadyH.cons (o := _) (by simp only [List.getElem?_toArray, List.getElem?_cons_succ, List.getElem?_cons_zero]; rfl) (fun K hK => ?_) ?_
            · go_simp
              refine hK.out _ _ ?_ (fun hHeld => ?_)
              · exact cell_of_heap (by (repeat' (with_reducible (first | apply heap_old | apply heap_drew | apply heap_drewN))); exact hH) hcs
              clear hK K
              (try simp only [Act.put, List.setIfInBounds_toArray, List.set_cons_zero, List.set_cons_succ])
              refine wpAnyH_ready (rs := [20]) (by kernel_rfl) (by simp) ?_
              refine AllReadyH.cons (o := _) (by simp only [List.getElem?_toArray, List.getElem?_cons_succ, List.getElem?_cons_zero]; rfl) (fun K hK => ?_) ?_
              · go_simp
                (go_at_call 61; refine (add_any w0 _ t ht0 c0 c1 c2 fs (by (repeat' (with_reducible (first | apply TabIs.drew | apply TabIs.alloc))); exact hT) hlen { steps := [(254, 72), (255, 255), (248, code)], more := 0, op := 15, alu := alu, cc := 0 } _ _ _ _ _ (by have hz := TabIs.size hT; (try simp at hz); (try simp); omega) _ rfl (by first | (refine heap_at ?_ ?_; (focus (simp; done)); (exact rfl)) | (refine heap_old _ (heap_at ?_ ?_); (focus (simp; done)); (exact rfl))) rfl rfl rfl rfl).mono ?_; rintro e W2 ⟨rfl, hT2, hk2⟩)
                go_wp2_with fail
                refine hK.out _ _ ?_ (fun hHeld => ?_)
                · exact cell_of_heap (hk2.keep _ _ (by (repeat' (with_reducible (first | apply heap_old | apply heap_drew | apply heap_drewN))); exact hH) (by simp [otag])) hcs
                clear hK K
                (try simp only [Act.put, List.setIfInBounds_toArray, List.set_cons_zero, List.set_cons_succ])
                refine wpAnyH_done (by kernel_rfl) ?_ _
                refine NoPanic.normal ?_
                exact HQ.out _ _ _ _ _ _ _ _ _ _ _ _ _ _ _ _ _ _ _ _ _ _ hT2 (KT.trans (by (repeat' (with_reducible (first | apply KT.drew | apply KT.drewN | apply KT.alloc))); exact (KT.refl _ V)) hk2)
              exact AllReadyH.nil
            exact AllReadyH.nil
          exact AllReadyH.nil
        refine AllReadyH.cons (o := _) (by simp only [List.getElem?_toArray, List.getElem?_cons_succ, List.getElem?_cons_zero]; rfl) (fun K hK => ?_) ?_
        · go_simp
          (go_at_call 62; refine (is_any _ _).mono ?_; rintro e w' ⟨rfl, rfl⟩)
          go_wp2_with fail
          refine hK.out _ _ ?_ (fun hHeld => ?_)
          · exact cell_of_heap (by (repeat' (with_reducible (first | apply heap_old | apply heap_drew | apply heap_drewN))); exact hH) hcs
          clear hK K
          (try simp only [Act.put, List.setIfInBounds_toArray, List.set_cons_zero, List.set_cons_succ])
          refine wpAnyH_ready (rs := [7, 19]) (by kernel_rfl) (by simp) ?_
          refine AllReadyH.cons (o := _) (by simp only [List.getElem?_toArray, List.getElem?_cons_succ, List.getElem?_cons_zero]; rfl) (fun K hK => ?_) ?_
          · go_simp
            refine hK.out _ _ ?_ (fun hHeld => ?_)
            · exact cell_of_heap (by (repeat' (with_reducible (first | apply heap_old | apply heap_drew | apply heap_drewN))); exact hH) hcs
            clear hK K
            (try simp only [Act.put, List.setIfInBounds_toArray, List.set_cons_zero, List.set_cons_succ])
            refine wpAnyH_ready (rs := [19]) (by kernel_rfl) (by simp) ?_
            refine AllReadyH.cons (o := _) (by simp only [List.getElem?_toArray, List.getElem?_cons_succ, List.getElem?_cons_zero]; rfl) (fun K hK => ?_) ?_
            · go_simp
              refine hK.out _ _ ?_ (fun hHeld => ?_)
              · exact cell_of_heap (by (repeat' (with_reducible (first | apply heap_old | apply heap_drew | apply heap_drewN))); exact hH) hcs
              clear hK K
              (try simp only [Act.put, List.setIfInBounds_toArray, List.set_cons_zero, List.set_cons_succ])
              refine wpAnyH_ready (rs := [20]) (by kernel_rfl) (by simp) ?_
              refine AllReadyH.cons (o := _) (by simp only [List.getElem?_toArray, List.getElem?_cons_succ, List.getElem?_cons_zero]; rfl) (fun K hK => ?_) ?_
              · go_simp
                (go_at_call 61; refine (add_any w0 _ t ht0 c0 c1 c2 fs (by (repeat' (with_reducible (first | apply TabIs.drew | apply TabIs.alloc))); exact hT) hlen { steps := [(254, 72), (255, 255), (248, code)], more := 0, op := 15, alu := alu, cc := 0 } _ _ _ _ _ (by have hz := TabIs.size hT; (try simp at hz); (try simp); omega) _ rfl (by first | (refine heap_at ?_ ?_; (focus (simp; done)); (exact rfl)) | (refine heap_old _ (heap_at ?_ ?_); (focus (simp; done)); (exact rfl))) rfl rfl rfl rfl).mono ?_; rintro e W2 ⟨rfl, hT2, hk2⟩)
                go_wp2_with fail
                refine hK.out _ _ ?_ (fun hHeld => ?_)
                · exact cell_of_heap (hk2.keep _ _ (by (repeat' (with_reducible (first | apply heap_old | apply heap_drew | apply heap_drewN))); exact hH) (by simp [otag])) hcs
                clear hK K
                (try simp only [Act.put, List.setIfInBounds_toArray, List.set_cons_zero, List.set_cons_succ])
                refine wpAnyH_done (by kernel_rfl) ?_ _
                refine NoPanic.normal ?_
                exact HQ.out _ _ _ _ _ _ _ _ _ _ _ _ _ _ _ _ _ _ _ _ _ _ hT2 (KT.trans (by (repeat' (with_reducible (first | apply KT.drew | apply KT.drewN | apply KT.alloc))); exact (KT.refl _ V)) hk2)
              exact AllReadyH.nil
            exact AllReadyH.nil
          refine AllReadyH.cons (o := _) (by simp only [List.getElem?_toArray, List.getElem?_cons_succ, List.getElem?_cons_zero]; rfl) (fun K hK => ?_) ?_
          · go_simp
            refine hK.out _ _ ?_ (fun hHeld => ?_)
            · exact cell_of_heap (by (repeat' (with_reducible (first | apply heap_old | apply heap_drew | apply heap_drewN))); exact hH) hcs
            clear hK K
            (try simp only [Act.put, List.setIfInBounds_toArray, List.set_cons_zero, List.set_cons_succ])
            refine wpAnyH_ready (rs := [7]) (by kernel_rfl) (by simp) ?_
            refine AllReadyH.cons (o := _) (by simp only [List.getElem?_toArray, List.getElem?_cons_succ, List.getElem?_cons_zero]; rfl) (fun K hK => ?_) ?_
            · go_simp
              refine hK.out _ _ ?_ (fun hHeld => ?_)
              · exact cell_of_heap (by (repeat' (with_reducible (first | apply heap_old | apply heap_drew | apply heap_drewN))); exact hH) hcs
              clear hK K
              (try simp only [Act.put, List.setIfInBounds_toArray, List.set_cons_zero, List.set_cons_succ])
              refine wpAnyH_ready (rs := [20]) (by kernel_rfl) (by simp) ?_
              refine AllReadyH.cons (o := _) (by simp only [List.getElem?_toArray, List.getElem?_cons_succ, List.getElem?_cons_zero]; rfl) (fun K hK => ?_) ?_
              · go_simp
                (go_at_call 61; refine (add_any w0 _ t ht0 c0 c1 c2 fs (by (repeat' (with_reducible (first | apply TabIs.drew | apply TabIs.alloc))); exact hT) hlen { steps := [(254, 72), (255, 255), (248, code)], more := 0, op := 15, alu := alu, cc := 0 } _ _ _ _ _ (by have hz := TabIs.size hT; (try simp at hz); (try simp); omega) _ rfl (by first | (refine heap_at ?_ ?_; (focus (simp; done)); (exact rfl)) | (refine heap_old _ (heap_at ?_ ?_); (focus (simp; done)); (exact rfl))) rfl rfl rfl rfl).mono ?_; rintro e W2 ⟨rfl, hT2, hk2⟩)
                go_wp2_with fail
                refine hK.out _ _ ?_ (fun hHeld => ?_)
                · exact cell_of_heap (hk2.keep _ _ (by (repeat' (with_reducible (first | apply heap_old | apply heap_drew | apply heap_drewN))); exact hH) (by simp [otag])) hcs
                clear hK K
                (try simp only [Act.put, List.setIfInBounds_toArray, List.set_cons_zero, List.set_cons_succ])
                refine wpAnyH_done (by kernel_rfl) ?_ _
                refine NoPanic.normal ?_
                exact HQ.out _ _ _ _ _ _ _ _ _ _ _ _ _ _ _ _ _ _ _ _ _ _ hT2 (KT.trans (by (repeat' (with_reducible (first | apply KT.drew | apply KT.drewN | apply KT.alloc))); exact (KT.refl _ V)) hk2)
              exact AllReadyH.nil
            exact AllReadyH.nil
          exact AllReadyH.nil
        exact AllReadyH.nil
      refine AllReadyH.cons (o := _) (by simp only [List.getElem?_toArray, List.getElem?_cons_succ, List.getElem?_cons_zero]; rfl) (fun K hK => ?_) ?_
      · go_simp
        (go_at_call 62; refine (is_any _ _).mono ?_; rintro e w' ⟨rfl, rfl⟩)
        go_wp2_with fail
        refine hK.out _ _ ?_ (fun hHeld => ?_)
        · exact cell_of_heap (by (repeat' (with_reducible (first | apply heap_old | apply heap_drew | apply heap_drewN))); exact hH) hcs
        clear hK K
        (try simp only [Act.put, List.setIfInBounds_toArray, List.set_cons_zero, List.set_cons_succ])
        refine wpAnyH_ready (rs := [4, 19]) (by kernel_rfl) (by simp) ?_
        refine AllReadyH.cons (o := _) (by simp only [List.getElem?_toArray, List.getElem?_cons_succ, List.getElem?_cons_zero]; rfl) (fun K hK => ?_) ?_
        · go_simp
          refine hK.out _ _ ?_ (fun hHeld => ?_)
          · exact cell_of_heap (by (repeat' (with_reducible (first | apply heap_old | apply heap_drew | apply heap_drewN))); exact hH) hcs
          clear hK K
          (try simp only [Act.put, List.setIfInBounds_toArray, List.set_cons_zero, List.set_cons_succ])
          refine' wpAnyH_take (i := 6) (oi := _) (v := _) (by simp only [List.getElem?_toArray, List.getElem?_cons_succ, List.getElem?_cons_zero]; rfl) (by kernel_rfl) (by kernel_rfl) (by kernel_rfl) (fun _ _ _ h => h) (Or.inl ⟨by rfl, ?_⟩) (by assumption) ?_
          rotate_left 1
          · (intro w hSw; (try dsimp only at hSw); go_simp); (try with_reducible rfl)
          (try simp only [Act.put, List.setIfInBounds_toArray, List.set_cons_zero, List.set_cons_succ])
          refine wpAnyH_ready (rs := [7, 19]) (by kernel_rfl) (by simp) ?_
          refine AllReadyH.cons (o := _) (by simp only [List.getElem?_toArray, List.getElem?_cons_succ, List.getElem?_cons_zero]; rfl) (fun K hK => ?_) ?_
          · go_simp
            refine hK.out _ _ ?_ (fun hHeld => ?_)
            · exact cell_of_heap (by (repeat' (with_reducible (first | apply heap_old | apply heap_drew | apply heap_drewN))); exact hH) hcs
            clear hK K
            (try simp only [Act.put, List.setIfInBounds_toArray, List.set_cons_zero, List.set_cons_succ])
            refine wpAnyH_ready (rs := [19]) (by kernel_rfl) (by simp) ?_
            refine AllReadyH.cons (o := _) (by simp only [List.getElem?_toArray, List.getElem?_cons_succ, List.getElem?_cons_zero]; rfl) (fun K hK => ?_) ?_
            · go_simp
              refine hK.out _ _ ?_ (fun hHeld => ?_)
              · exact cell_of_heap (by (repeat' (with_reducible (first | apply heap_old | apply heap_drew | apply heap_drewN))); exact hH) hcs
              clear hK K
              (try simp only [Act.put, List.setIfInBounds_toArray, List.set_cons_zero, List.set_cons_succ])
              refine wpAnyH_ready (rs := [20]) (by kernel_rfl) (by simp) ?_
              refine AllReadyH.cons (o := _) (by simp only [List.getElem?_toArray, List.getElem?_cons_succ, List.getElem?_cons_zero]; rfl) (fun K hK => ?_) ?_
              · go_simp
                (go_at_call 61; refine (add_any w0 _ t ht0 c0 c1 c2 fs (by (repeat' (with_reducible (first | apply TabIs.drew | apply TabIs.alloc))); exact hT) hlen { steps := [(254, 72), (255, 255), (248, code)], more := 0, op := 15, alu := alu, cc := 0 } _ _ _ _ _ (by have hz := TabIs.size hT; (try simp at hz); (try simp); omega) _ rfl (by first | (refine heap_at ?_ ?_; (focus (simp; done)); (exact rfl)) | (refine heap_old _ (heap_at ?_ ?_); (focus (simp; done)); (exact rfl))) rfl rfl rfl rfl).mono ?_; rintro e W2 ⟨rfl, hT2, hk2⟩)
                go_wp2_with fail
                refine hK.out _ _ ?_ (fun hHeld => ?_)
                · exact cell_of_heap (hk2.keep _ _ (by (repeat' (with_reducible (first | apply heap_old | apply heap_drew | apply heap_drewN))); exact hH) (by simp [otag])) hcs
                clear hK K
                (try simp only [Act.put, List.setIfInBounds_toArray, List.set_cons_zero, List.set_cons_succ])
                refine wpAnyH_done (by kernel_rfl) ?_ _
                refine NoPanic.normal ?_
                exact HQ.out _ _ _ _ _ _ _ _ _ _ _ _ _ _ _ _ _ _ _ _ _ _ hT2 (KT.trans (by (repeat' (with_reducible (first | apply KT.drew | apply KT.drewN | apply KT.alloc))); exact (KT.refl _ V)) hk2)
              exact AllReadyH.nil
            exact AllReadyH.nil
          refine AllReadyH.cons (o := _) (by simp only [List.getElem?_toArray, List.getElem?_cons_succ, List.getElem?_cons_zero]; rfl) (fun K hK => ?_) ?_
          · go_simp
            refine hK.out _ _ ?_ (fun hHeld => ?_)
            · exact cell_of_heap (by (repeat' (with_reducible (first | apply heap_old | apply heap_drew | apply heap_drewN))); exact hH) hcs
            clear hK K
            (try simp only [Act.put, List.setIfInBounds_toArray, List.set_cons_zero, List.set_cons_succ])
            refine wpAnyH_ready (rs := [7]) (by kernel_rfl) (by simp) ?_
            refine AllReadyH.cons (o := _) (by simp only [List.getElem?_toArray, List.getElem?_cons_succ, List.getElem?_cons_zero]; rfl) (fun K hK => ?_) ?_
            · go_simp
              refine hK.out _ _ ?_ (fun hHeld => ?_)
              · exact cell_of_heap (by (repeat' (with_reducible (first | apply heap_old | apply heap_drew | apply heap_drewN))); exact hH) hcs
              clear hK K
              (try simp only [Act.put, List.setIfInBounds_toArray, List.set_cons_zero, List.set_cons_succ])
              refine wpAnyH_ready (rs := [20]) (by kernel_rfl) (by simp) ?_
              refine AllReadyH.cons (o := _) (by simp only [List.getElem?_toArray, List.getElem?_cons_succ, List.getElem?_cons_zero]; rfl) (fun K hK => ?_) ?_
              · go_simp
                (go_at_call 61; refine (add_any w0 _ t ht0 c0 c1 c2 fs (by (repeat' (with_reducible (first | apply TabIs.drew | apply TabIs.alloc))); exact hT) hlen { steps := [(254, 72), (255, 255), (248, code)], more := 0, op := 15, alu := alu, cc := 0 } _ _ _ _ _ (by have hz := TabIs.size hT; (try simp at hz); (try simp); omega) _ rfl (by first | (refine heap_at ?_ ?_; (focus (simp; done)); (exact rfl)) | (refine heap_old _ (heap_at ?_ ?_); (focus (simp; done)); (exact rfl))) rfl rfl rfl rfl).mono ?_; rintro e W2 ⟨rfl, hT2, hk2⟩)
                go_wp2_with fail
                refine hK.out _ _ ?_ (fun hHeld => ?_)
                · exact cell_of_heap (hk2.keep _ _ (by (repeat' (with_reducible (first | apply heap_old | apply heap_drew | apply heap_drewN))); exact hH) (by simp [otag])) hcs
                clear hK K
                (try simp only [Act.put, List.setIfInBounds_toArray, List.set_cons_zero, List.set_cons_succ])
                refine wpAnyH_done (by kernel_rfl) ?_ _
                refine NoPanic.normal ?_
                exact HQ.out _ _ _ _ _ _ _ _ _ _ _ _ _ _ _ _ _ _ _ _ _ _ hT2 (KT.trans (by (repeat' (with_reducible (first | apply KT.drew | apply KT.drewN | apply KT.alloc))); exact (KT.refl _ V)) hk2)
              exact AllReadyH.nil
            exact AllReadyH.nil
          exact AllReadyH.nil
        refine AllReadyH.cons (o := _) (by simp only [List.getElem?_toArray, List.getElem?_cons_succ, List.getElem?_cons_zero]; rfl) (fun K hK => ?_) ?_
        · go_simp
          refine hK.out _ _ ?_ (fun hHeld => ?_)
          · exact cell_of_heap (by (repeat' (with_reducible (first | apply heap_old | apply heap_drew | apply heap_drewN))); exact hH) hcs
          clear hK K
          (try simp only [Act.put, List.setIfInBounds_toArray, List.set_cons_zero, List.set_cons_succ])
          refine wpAnyH_ready (rs := [4]) (by kernel_rfl) (by simp) ?_
          refine AllReadyH.cons (o := _) (by simp only [List.getElem?_toArray, List.getElem?_cons_succ, List.getElem?_cons_zero]; rfl) (fun K hK => ?_) ?_
          · go_simp
            refine hK.out _ _ ?_ (fun hHeld => ?_)
            · exact cell_of_heap (by (repeat' (with_reducible (first | apply heap_old | apply heap_drew | apply heap_drewN))); exact hH) hcs
            clear hK K
            (try simp only [Act.put, List.setIfInBounds_toArray, List.set_cons_zero, List.set_cons_succ])
            refine' wpAnyH_take (i := 6) (oi := _) (v := _) (by simp only [List.getElem?_toArray, List.getElem?_cons_succ, List.getElem?_cons_zero]; rfl) (by kernel_rfl) (by kernel_rfl) (by kernel_rfl) (fun _ _ _ h => h) (Or.inl ⟨by rfl, ?_⟩) (by assumption) ?_
            rotate_left 1
            · (intro w hSw; (try dsimp only at hSw); go_simp); (try with_reducible rfl)
            (try simp only [Act.put, List.setIfInBounds_toArray, List.set_cons_zero, List.set_cons_succ])
            refine wpAnyH_ready (rs := [7]) (by kernel_rfl) (by simp) ?_
            refine AllReadyH.cons (o := _) (by simp only [List.getElem?_toArray, List.getElem?_cons_succ, List.getElem?_cons_zero]; rfl) (fun K hK => ?_) ?_
            · go_simp
              refine hK.out _ _ ?_ (fun hHeld => ?_)
              · exact cell_of_heap (by (repeat' (with_reducible (first | apply heap_old | apply heap_drew | apply heap_drewN))); exact hH) hcs
              clear hK K
              (try simp only [Act.put, List.setIfInBounds_toArray, List.set_cons_zero, List.set_cons_succ])
              refine wpAnyH_ready (rs := [20]) (by kernel_rfl) (by simp) ?_
              refine AllReadyH.cons (o := _) (by simp only [List.getElem?_toArray, List.getElem?_cons_succ, List.getElem?_cons_zero]; rfl) (fun K hK => ?_) ?_
              · go_simp
                (go_at_call 61; refine (add_any w0 _ t ht0 c0 c1 c2 fs (by (repeat' (with_reducible (first | apply TabIs.drew | apply TabIs.alloc))); exact hT) hlen { steps := [(254, 72), (255, 255), (248, code)], more := 0, op := 15, alu := alu, cc := 0 } _ _ _ _ _ (by have hz := TabIs.size hT; (try simp at hz); (try simp); omega) _ rfl (by first | (refine heap_at ?_ ?_; (focus (simp; done)); (exact rfl)) | (refine heap_old _ (heap_at ?_ ?_); (focus (simp; done)); (exact rfl))) rfl rfl rfl rfl).mono ?_; rintro e W2 ⟨rfl, hT2, hk2⟩)
                go_wp2_with fail
                refine hK.out _ _ ?_ (fun hHeld => ?_)
                · exact cell_of_heap (hk2.keep _ _ (by (repeat' (with_reducible (first | apply heap_old | apply heap_drew | apply heap_drewN))); exact hH) (by simp [otag])) hcs
                clear hK K
                (try simp only [Act.put, List.setIfInBounds_toArray, List.set_cons_zero, List.set_cons_succ])
                refine wpAnyH_done (by kernel_rfl) ?_ _
                refine NoPanic.normal ?_
                exact HQ.out _ _ _ _ _ _ _ _ _ _ _ _ _ _ _ _ _ _ _ _ _ _ hT2 (KT.trans (by (repeat' (with_reducible (first | apply KT.drew | apply KT.drewN | apply KT.alloc))); exact (KT.refl _ V)) hk2)
              exact AllReadyH.nil
            exact AllReadyH.nil
          exact AllReadyH.nil
        exact AllReadyH.nil
      exact AllReadyH.nil
    exact AllReadyH.nil
  exact AllReadyH.nil
end Go.Proofs.Ytegnmnhdpnmnpaa
