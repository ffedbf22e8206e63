/-
  The engine, part H: append and copy give what the abstract ones give. No condition.
-/
import Derived.Test.YtdbaigcnlmnliaaGreatDoorEngG
noncomputable section
namespace Go.Eng
open Go
section
variable {P : Program} {T : TE} (hT : T.OK P) {D : Nat → Prop} {ι : Nat → Reg} {σ : St} {w : World}

theorem isIntD_spec {d : TypeDesc} (h : isIntD d = false) : ∀ k, d ≠ .int k := by
  intro k e; subst e; cases h

theorem Foot.rc_fc {rc : List (Nat × Nat)} {wc : List (Nat × Nat)} {rh wh : List Nat} : ∀ p ∈ rc, (⟨rc, rh, wc, wh⟩ : Foot).Fc p.1 p.2 := fun _ hp => .inl hp

include hT
theorem aAppend_sound {args : Array TypeId} {ty : TypeId} {s s' x x' : Value} {r : R} (h : aAppend T σ args s x = some r) (hs : VR D ι s s') (hx : VR D ι x x') :
    Sound P D ι σ w (Builtin.append_ args ty #[s', x']) r := by
  unfold aAppend at h
  split at h
  · rename_i sT xT rest hargs
    have h0 : args[0]? = some sT := by rw [← Array.getElem?_toList, hargs]; rfl
    have h1 : args[1]? = some xT := by rw [← Array.getElem?_toList, hargs]; rfl
    split at h
    · rename_i elem d hsT hxT
      cases hd : isIntD d
      · rw [hd, cond_false] at h
        have hd := isIntD_spec hd
        split at h
        · rename_i e he
          split at h
          · rename_i z new n rc hz hc
            split at h
            · -- a nil slice
              rename_i sLen cap
              cases hb : (Nat.beq sLen 0 && Nat.beq cap 0)
              · rw [hb] at h; cases h
              · rw [hb, cond_true] at h
                rw [Bool.and_eq_true] at hb
                have e1 := Nat.eq_of_beq_eq_true hb.1
                have e2 := Nat.eq_of_beq_eq_true hb.2
                subst e1 e2
                cases hs
                cases hn : Nat.beq n 0
                · rw [hn, cond_false] at h
                  have hn : n ≠ 0 := fun e => by rw [beq_t e] at hn; cases hn
                  unfold aGrow at h
                  cases hg : growOK e z n
                  · rw [hg] at h; cases h
                  · rw [hg, cond_true] at h
                    cases h
                    obtain ⟨g1, g2, g3⟩ := growOK_spec hg
                    refine ⟨by simp [St.new], fun hw => ⟨St.new_wf hw _, AFr.new _ _ _⟩, fun hw hD ho => ?_⟩
                    obtain ⟨hl, l2, newc, hr, hnew⟩ := aCells_run (P := P) hc hx ho Foot.rc_fc
                    obtain ⟨newCap, w', c1, c2, c3, c4, c5⟩ := append_grows hT (ty := ty) (w := w) (base := none) (sLen := 0) (cap := 0) (old := #[]) h0 h1 hsT hxT hd he hz g2 (by rw [Nat.zero_add]; exact g3) hl (by omega) (fun w' _ => rfl) hr
                    rw [Nat.zero_add] at c1 c2 c5
                    obtain ⟨ι', p1, p2⟩ := aGrow_post hT (D := D) (ι := ι) (φ := ⟨rc, [], [], []⟩) (n0 := 0) (old := []) (oldc := #[]) hw (hD _ (by simp [St.rng, St.new])) he g1 ⟨rfl, by simp⟩ hnew (by simp) l2 (by simp) c1 c2 c3 c4 rfl rfl
                    exact ⟨_, ι', w', c5, p1, p2⟩
                · rw [hn, cond_true] at h
                  have hn := Nat.eq_of_beq_eq_true hn
                  subst hn
                  cases h
                  refine Sound.same (w' := w) (v' := .slice none 0 0) (fun ho => ?_) rfl rfl
                  obtain ⟨hl, l2, newc, hr, hnew⟩ := aCells_run (P := P) hc hx ho Foot.rc_fc
                  refine ⟨?_, .slN _ _, rfl, rfl, rfl⟩
                  rw [append_fits hT h0 h1 hsT hxT hd he hl (Nat.le_refl 0) (hr w rfl)]
                  rfl
            · rename_i id off sLen cap
              split at h
              · rename_i cs elem' ro hg
                obtain ⟨c', rfl, hD, hk, hunk⟩ := hs.sl_inv
                cases hcu : Nat.beq cap unk
                · -- the capacity is known
                  rw [hcu, cond_false] at h
                  have hne : cap ≠ unk := fun e => by rw [beq_t e] at hcu; cases hcu
                  obtain rfl := hk hne
                  cases hle : Nat.ble (sLen + n) c'
                  · rw [hle, cond_false] at h
                    have hgt : c' < sLen + n := by
                      rcases Nat.lt_or_ge c' (sLen + n) with h | h
                      · exact h
                      · rw [Nat.ble_eq_true_of_le h] at hle; cases hle
                    split at h
                    · rename_i old hold
                      unfold aGrow at h
                      cases hg' : growOK e z (sLen + n)
                      · rw [hg'] at h; cases h
                      · rw [hg', cond_true] at h
                        cases h
                        obtain ⟨g1, g2, g3⟩ := growOK_spec hg'
                        refine ⟨by simp [St.new], fun hw => ⟨St.new_wf hw _, AFr.new _ _ _⟩, fun hw hDn ho => ?_⟩
                        obtain ⟨hl, l2, newc, hr, hnew⟩ := aCells_run (P := P) hc hx ho fun p hp => .inl (by simp [hp])
                        obtain ⟨oldc, ho1, ho2⟩ := loadCells_of hg hold ho fun j hj => .inl (by simp only [List.mem_append]; exact .inr (mem_locs.2 ⟨rfl, Nat.le_add_right _ _, by omega⟩))
                        obtain ⟨newCap, w', c1, c2, c3, c4, c5⟩ := append_grows hT (ty := ty) (w := w) (base := some ⟨(ι id).blk, (ι id).base + off, none⟩) (cap := c') (old := oldc) h0 h1 hsT hxT hd he hz g2 g3 hl hgt (fun w' hw' => ho1 w' hw') hr
                        obtain ⟨ι', p1, p2⟩ := aGrow_post hT (D := D) (ι := ι) (φ := ⟨rc ++ locs id off (sLen * e.size), [], [], []⟩) (n0 := sLen) hw (hDn _ (by simp [St.rng, St.new])) he g1 ho2 hnew (lslice_spec _ _ _ _ hold).1 l2 rfl c1 c2 c3 c4 rfl rfl
                        exact ⟨_, ι', w', c5, p1, p2⟩
                    · cases h
                  · rw [hle, cond_true] at h
                    have hle := Nat.le_of_ble_eq_true hle
                    split at h
                    · cases h
                      refine Sound.same (w' := w) (v' := .slice (some ⟨(ι id).blk, (ι id).base + off, none⟩) (sLen + n) c') (fun ho => ?_) rfl rfl
                      obtain ⟨hl, l2, newc, hr, hnew⟩ := aCells_run (P := P) hc hx ho Foot.rc_fc
                      refine ⟨?_, .slK id _ _ _ hD hne, rfl, rfl, rfl⟩
                      rw [append_fits hT h0 h1 hsT hxT hd he hl hle (hr w rfl)]
                      have : newc.toList = [] := by
                        have := hnew.1
                        simp at this
                        have h2 : newc.size = 0 := by omega
                        simpa using h2
                      simp only [this, storeCells, Sem.run_pure, Result.andThen_ok]
                    · rename_i y ys
                      cases hb : (Nat.beq elem' elem && !ro && (y :: ys).all oneC)
                      · rw [hb] at h; cases h
                      · rw [hb, cond_true] at h
                        rw [Bool.and_eq_true, Bool.and_eq_true] at hb
                        split at h
                        · rename_i cs' hput
                          cases h
                          have hro : ro = false := by simpa using hb.1.2
                          subst hro
                          refine ⟨Nat.le_refl _, fun hw => ⟨St.put_wf hw (St.lv_lt hw (St.lv_of hg)) _, AFr.lput hg hput (by simp)⟩, fun hw hDn ho => ?_⟩
                          obtain ⟨hl, l2, newc, hr, hnew⟩ := aCells_run (P := P) hc hx ho Foot.rc_fc
                          have hlen : (y :: ys).length = newc.toList.length := by simpa using hnew.1
                          obtain ⟨w', e1, e2⟩ := storeCells_of (vs' := newc.toList) hg hput (by simp) (List.all_eq_true.1 hb.2) ho hlen fun k u u' hu hu' => hnew.2 k u u' (by simpa using hu) (by simpa using hu')
                          refine ⟨.slice (some ⟨(ι id).blk, (ι id).base + off, none⟩) (sLen + n) c', ι, w', ?_, (VR.slK id _ _ _ hD hne).mono (fun _ => .inl) fun _ _ => rfl, e2⟩
                          rw [append_fits hT h0 h1 hsT hxT hd he hl hle (hr w rfl)]
                          simp only [add_none]
                          rw [Nat.add_assoc, e1]
                          rfl
                        · cases h
                · -- the capacity is not known
                  rw [hcu, cond_true] at h
                  have hcu := Nat.eq_of_beq_eq_true hcu
                  obtain ⟨u1, u2⟩ := hunk hcu
                  cases hn : Nat.beq n 0
                  · rw [hn, cond_false] at h
                    have hn : n ≠ 0 := fun e => by rw [beq_t e] at hn; cases hn
                    cases hb : (Nat.beq elem' elem && !ro && growOK e z (sLen + n) && new.all oneC && Nat.beq (Nat.mod off e.size) 0)
                    · rw [hb] at h; cases h
                    · rw [hb, cond_true] at h
                      rw [Bool.and_eq_true, Bool.and_eq_true, Bool.and_eq_true, Bool.and_eq_true] at hb
                      obtain ⟨⟨⟨⟨b1, b2⟩, b3⟩, b4⟩, b5⟩ := hb
                      have b5 : off % e.size = 0 := Nat.eq_of_beq_eq_true b5
                      have b1 := Nat.eq_of_beq_eq_true b1
                      subst b1
                      have hro : ro = false := by simpa using b2
                      subst hro
                      obtain ⟨g1, g2, g3⟩ := growOK_spec b3
                      split at h
                      · rename_i old hold
                        cases h
                        obtain ⟨q1, q2, q3⟩ := lslice_spec _ _ _ _ hold
                        refine ⟨by simp [St.new, St.put], fun hw => ⟨St.new_wf (St.put_wf hw (St.lv_lt hw (St.lv_of hg)) _) _, AFr.giveUp (by simp)⟩, fun hw hDn ho => ?_⟩
                        have hDx : ¬ D σ.next := hDn _ (by simp [St.rng, St.new, St.put])
                        obtain ⟨hl, l2, newc, hr, hnew⟩ := aCells_run (P := P) hc hx ho Foot.rc_fc
                        obtain ⟨oldc, ho1, ho2⟩ := loadCells_of hg hold ho fun j hj => .inr (.inr (.inr (by simp)))
                        have a1 : old.length = oldc.size := by simpa using ho2.1
                        have a2 : new.length = newc.size := by simpa using hnew.1
                        have hid : (⟨rc, [], [], [id]⟩ : Foot).Fi id := .inr (.inr (.inr (by simp)))
                        obtain ⟨c, elem0, fr, e1, e2, e3, eo, e45⟩ := ho.hd id _ hid (St.hdr_of hg)
                        obtain ⟨e0, e4, e5⟩ := e45 rfl
                        rw [e0] at e1
                        obtain ⟨hes, hal1, hal2⟩ := e4 e (hT.inf _ _ he)
                        have hblk : (ι id).blk < w.heap.size := (ho.hd id _ hid (St.hdr_of hg)).lt (.inl ⟨eo.1, rfl⟩)
                        have hnn : ∀ j, σ.rng ((σ.put id none).new (.row (old ++ new) elem' false)) j ↔ j = σ.next := fun j => by simp only [St.rng, St.put, St.new]; omega
                        by_cases hfit : sLen + n ≤ c'
                        · -- in place
                          have hroom : off + (sLen + n) * e.size ≤ (ι id).room := by
                            rw [hes] at u2
                            have := Nat.mul_le_mul_right e.size hfit
                            omega
                          have hadd : sLen * e.size + n * e.size = (sLen + n) * e.size := by rw [Nat.add_mul]
                          have hnl : newc.toList.length = n * e.size := by simp; omega
                          have hrun := run_storeL P (ι id).blk ((ι id).base + off + sLen * e.size) elem' fr newc.toList 0 c w e1 (by omega) (fun v' hv' => by
                            obtain ⟨k, hk, rfl⟩ := List.mem_iff_getElem.1 hv'
                            have hk' : k < new.length := by omega
                            exact (hnew.2 k new[k] _ (by simp) (by simp only [Array.length_toList] at hk; simp [hk])).oneC (List.all_eq_true.1 b4 _ (List.getElem_mem _))) e5
                          have hset := fun k => setL_get newc.toList c ((ι id).base + off + sLen * e.size + 0) k (by omega)
                          refine ⟨.slice (some ⟨(ι id).blk, (ι id).base + off, none⟩) (sLen + n) c', upd ι σ.next (rg (ι id).blk ((ι id).base + off) ((ι id).room - off) e.size), { w with heap := w.heap.setIfInBounds (ι id).blk (.cells (setL c ((ι id).base + off + sLen * e.size + 0) newc.toList) elem' fr) }, ?_, ?_, ?_⟩
                          · rw [append_fits hT h0 h1 hsT hxT hd he hl hfit (hr w rfl)]
                            simp only [add_none]
                            rw [hrun]
                            rfl
                          · have := VR.slU (D := fun i => D i ∨ σ.rng ((σ.put id none).new (.row (old ++ new) elem' false)) i) (ι := upd ι σ.next (rg (ι id).blk ((ι id).base + off) ((ι id).room - off) e.size)) σ.next 0 (sLen + n) c' (.inr ((hnn _).2 rfl)) hfit (by rw [upd_eq]; rw [hes] at u2; simp only [rg]; omega)
                            rw [upd_eq] at this
                            exact this
                          · have hnew' : ∀ (o : Obj), (w.heap.setIfInBounds (ι id).blk o)[(ι id).blk]? = some o := fun o => by simp [hblk]
                            refine Post.giveUp hw hg (fun b hb hbe => ?_) rfl rfl (by simp) ?_ ?_ (.inr rfl) eo.1 (rg_fz _ _ _ _)
                            · exact Array.getElem?_setIfInBounds_ne hbe.symm
                            · refine ⟨setL c _ newc.toList, _, fr, by rw [upd_eq]; exact hnew' _, by rw [upd_eq, setL_size]; simp only [rg]; omega, by rw [upd_eq, List.length_append, q1, l2]; simp only [rg]; omega, upd_own, fun _ => ⟨rfl, fun i hi => ?_, fun o ho' => e5 o (by rwa [setL_size] at ho')⟩⟩
                              rw [upd_eq, setL_size]
                              rw [hT.inf _ _ he] at hi; cases hi
                              exact ⟨rfl, by simp only [rg]; rw [Nat.add_mod, hal1, b5]; simp, hal2⟩
                            · intro k v hk
                              obtain ⟨v', hv', hvv⟩ := AR.append ho2 hnew #[] k v hk
                              have hkl : k < (sLen + n) * e.size := by
                                rcases Nat.lt_or_ge k (old ++ new).length with h | h
                                · rw [List.length_append, q1, l2] at h; omega
                                · rw [List.getElem?_eq_none h] at hk; cases hk
                              refine ⟨upd_own.1, v', ?_, hvv.mono (fun _ hi => hi) fun i hi => upd_ne _ _ fun e => hDx (e ▸ hi)⟩
                              simp only [World.cell?, upd_eq, rg, hnew', Option.isSome_none, Bool.false_eq_true, if_false]
                              rw [hset, hnl]
                              rw [Array.append_empty] at hv'
                              by_cases hlow : k < sLen * e.size
                              · rw [if_neg (by omega)]
                                rw [Array.getElem?_append_left (by omega)] at hv'
                                -- the old cell is what memory holds
                                have hold' : k < old.length := by omega
                                obtain ⟨-, u, hu1, hu2⟩ := ho.ce id (off + k) old[k] (.inr (.inr (.inr (by simp)))) (St.lv_of hg) (by rw [St.cell_of hg, ← q3 k hlow]; exact List.getElem?_eq_getElem hold')
                                have hrd := ho1 w rfl
                                have : oldc[k]? = some u := by
                                  have hrd2 := run_loadCells (P := P) w ⟨(ι id).blk, (ι id).base + off, none⟩ (sLen * e.size) (fun j => (w.cell? ⟨(ι id).blk, (ι id).base + off + j, none⟩).getD undef) fun j hj => by
                                    obtain ⟨-, y, hy1, _⟩ := ho.ce id (off + j) (old[j]'(by omega)) (.inr (.inr (.inr (by simp)))) (St.lv_of hg) (by rw [St.cell_of hg, ← q3 j hj]; exact List.getElem?_eq_getElem (by omega))
                                    rw [add_none, Nat.add_assoc, hy1]; rfl
                                  rw [hrd] at hrd2
                                  simp only [Result.ok.injEq, and_true] at hrd2
                                  rw [hrd2]
                                  simp only [List.getElem?_toArray, List.getElem?_map, List.getElem?_range hlow, Option.map_some]
                                  rw [Nat.add_assoc, hu1]; rfl
                                rw [this] at hv'
                                cases hv'
                                simp only [World.cell?, e1, Option.isSome_none, Bool.false_eq_true, if_false] at hu1
                                rw [Nat.add_assoc]; exact hu1
                              · rw [if_pos (by omega)]
                                rw [Array.getElem?_append_right (by omega)] at hv'
                                rw [Array.getElem?_toList, ← hv']
                                congr 1; omega
                        · -- it grows
                          obtain ⟨newCap, w', c1, c2, c3, c4, c5⟩ := append_grows hT (ty := ty) (w := w) (base := some ⟨(ι id).blk, (ι id).base + off, none⟩) (cap := c') (old := oldc) h0 h1 hsT hxT hd he hz g2 g3 hl (by omega) (fun w' hw' => ho1 w' hw') hr
                          have hsz : (oldc ++ newc ++ Builtin.zeroCells z.cells (newCap - (sLen + n))).size = newCap * e.size := by
                            simp only [Array.size_append, zeroCells_size, g1, ← a1, ← a2, q1, l2]
                            rw [← Nat.add_mul, ← Nat.add_mul]
                            congr 1; omega
                          refine ⟨.slice (some ⟨w.heap.size, 0, none⟩) (sLen + n) newCap, upd ι σ.next (rg w.heap.size 0 (newCap * e.size) e.size), w', c5, ?_, ?_⟩
                          · have := VR.slU (D := fun i => D i ∨ σ.rng ((σ.put id none).new (.row (old ++ new) elem' false)) i) (ι := upd ι σ.next (rg w.heap.size 0 (newCap * e.size) e.size)) σ.next 0 (sLen + n) newCap (.inr ((hnn _).2 rfl)) c1 (by rw [upd_eq]; simp [rg])
                            rw [upd_eq] at this
                            exact this
                          · refine Post.giveUp hw hg (fun b hb _ => by rw [c2, heap_push_old _ _ hb]) c3 c4 (by rw [c2]; simp) ?_ (fun k v hk => ?_) (.inl ⟨Nat.le_refl _, by rw [c2]; simp [rg]⟩) eo.1 (rg_fz _ _ _ _)
                            · refine ⟨_, _, (0, 0), by rw [upd_eq, c2]; exact heap_push_new _ _, by rw [upd_eq, hsz]; simp [rg], ?_, upd_own, fun _ => ⟨rfl, fun i hi => ?_, fun o _ h => by omega⟩⟩
                              · rw [upd_eq, List.length_append, q1, l2, ← Nat.add_mul]
                                exact Nat.mul_le_mul_right _ c1
                              · rw [upd_eq]
                                rw [hT.inf _ _ he] at hi; cases hi
                                exact ⟨rfl, by simp [rg], by rw [hsz]; exact Nat.mul_mod_left _ _⟩
                            · obtain ⟨v', hv', hvv⟩ := AR.append ho2 hnew (Builtin.zeroCells z.cells (newCap - (sLen + n))) k v hk
                              refine ⟨upd_own.1, v', ?_, hvv.mono (fun _ hi => hi) fun i hi => upd_ne _ _ fun e => hDx (e ▸ hi)⟩
                              simp only [World.cell?, upd_eq, rg, c2, heap_push_new, Option.isSome_none, Bool.false_eq_true, if_false, Nat.zero_add]
                              exact hv'
                      · cases h
                  · rw [hn, cond_true] at h
                    have hn := Nat.eq_of_beq_eq_true hn
                    subst hn
                    cases h
                    refine Sound.same (w' := w) (v' := .slice (some ⟨(ι id).blk, (ι id).base + off, none⟩) sLen c') (fun ho => ?_) rfl rfl
                    obtain ⟨hl, l2, newc, hr, hnew⟩ := aCells_run (P := P) hc hx ho Foot.rc_fc
                    subst hcu
                    refine ⟨?_, hs, rfl, rfl, rfl⟩
                    rw [append_fits hT h0 h1 hsT hxT hd he hl (by omega) (hr w rfl)]
                    have : newc.toList = [] := by
                      have := hnew.1
                      simp at this
                      have h2 : newc.size = 0 := by omega
                      simpa using h2
                    simp only [this, storeCells, Sem.run_pure, Result.andThen_ok, Nat.add_zero]
              · cases h
            · cases h
          · cases h
        · cases h
      · rw [hd] at h; cases h
    · cases h
  · cases h
omit hT
end
end Go.Eng
