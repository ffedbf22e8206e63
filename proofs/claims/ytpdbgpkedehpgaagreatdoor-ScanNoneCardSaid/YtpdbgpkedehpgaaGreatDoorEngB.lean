/-
  The engine, part B: two abstract steps in a row are one. No condition.
-/
import Derived.Test.YtpdbgpkedehpgaaGreatDoorEngA
noncomputable section
namespace Go.Eng
open Go
section
variable {P : Program} {D N M : Nat → Prop} {ι ι1 ι2 : Nat → Reg} {h h1 h2 : H} {w w1 w2 : World} {φ ψ : Foot}

theorem CellOK.lt {D : Nat → Prop} {ι : Nat → Reg} {id k : Nat} {w : World} {v : Value} (h : CellOK D ι id w k v) : (ι id).blk < w.heap.size := by
  obtain ⟨v', e, _⟩ := h
  simp only [World.cell?] at e
  rcases Nat.lt_or_ge (ι id).blk w.heap.size with hlt | hge
  · exact hlt
  · rw [Array.getElem?_eq_none hge] at e; cases e

theorem CellOK.more {D D' : Nat → Prop} {ι : Nat → Reg} {id k : Nat} {w : World} {v : Value} (h : CellOK D ι id w k v) (hD : ∀ i, D i → D' i) : CellOK D' ι id w k v :=
  let ⟨v', e, hv⟩ := h; ⟨v', e, hv.mono hD fun _ _ => rfl⟩

theorem Post.lv (p : Post P D N ι h w φ ι1 h1 w1) {id : Nat} (hn : ¬ N id) (hl : Lv h1 id) : Lv h id := by
  by_cases hw : φ.Wi id
  · exact p.wl id 0 (hw.wc 0) hn
  · exact hl.of_hdr (p.ahdr id hn hw)

theorem Post.inj (H0 : HOn P D ι h (φ.add ψ) w) (p : Post P D N ι h w φ ι1 h1 w1) {i j : Nat} (hi : (φ.add ψ).Fi i ∨ N i) (hj : (φ.add ψ).Fi j ∨ N j)
    (li : Lv h1 i) (lj : Lv h1 j) (hij : i ≠ j) : (ι1 i).blk ≠ (ι1 j).blk := by
  have mixed : ∀ a b, N a → ¬ N b → (φ.add ψ).Fi b → Lv h1 a → Lv h1 b → a ≠ b → (ι1 a).blk ≠ (ι1 b).blk := by
    intro a b na nb fb la lb hab
    rw [p.io b nb]
    obtain ⟨y, hy⟩ := p.lv nb lb
    have hlt := (H0.hd b y fb hy).lt
    rcases p.fresh a na la with ⟨h1, _⟩ | ⟨k, wk, nk, wrk, dk, e⟩
    · omega
    · rw [e]
      have hkb : k ≠ b := fun e => dk (e ▸ lb)
      exact H0.inj k b (Foot.add_Fi.2 (.inl wk.fi)) fb wrk.lv ⟨y, hy⟩ hkb
  by_cases ni : N i
  · by_cases nj : N j
    · exact p.dist i j ni nj li lj hij
    · exact mixed i j ni nj (hj.resolve_right nj) li lj hij
  · by_cases nj : N j
    · exact (mixed j i nj ni (hi.resolve_right ni) lj li hij.symm).symm
    · rw [p.io i ni, p.io j nj]
      exact H0.inj i j (hi.resolve_right ni) (hj.resolve_right nj) (p.lv ni li) (p.lv nj lj) hij

/-- what holds of memory where the second step looks -/
theorem Post.hon (H0 : HOn P D ι h (φ.add ψ) w) (p : Post P D N ι h w φ ι1 h1 w1) (hDN : ∀ id, N id → ¬ D id) : HOn P (fun i => D i ∨ N i) ι1 h1 ψ w1 where
  hd := by
    intro id x fi e
    by_cases hw : φ.Wi id ∨ N id
    · exact p.hdr id x hw e
    · have nw : ¬ φ.Wi id := fun x => hw (.inl x)
      have nn : ¬ N id := fun x => hw (.inr x)
      rw [p.ahdr id nn nw] at e
      have f := Foot.add_Fi.2 (.inr fi : φ.Fi id ∨ ψ.Fi id)
      have hok := H0.hd id x f e
      refine hok.keep (p.io id nn) (p.cfr _ hok.lt fun k wk wrk he => ?_)
      exact H0.inj k id (Foot.add_Fi.2 (.inl wk.fi)) f wrk.lv ⟨x, e⟩ (fun e => nw (e ▸ wk)) he
  ce := by
    intro id k v fc lv e
    by_cases hw : φ.Wc id k ∨ N id
    · exact p.cel id k v hw lv e
    · have nw : ¬ φ.Wc id k := fun x => hw (.inl x)
      have nn : ¬ N id := fun x => hw (.inr x)
      have nwi : ¬ φ.Wi id := fun x => nw (x.wc k)
      rw [p.acel id k nn nw] at e
      have lv0 := p.lv nn lv
      have hok := H0.ce id k v (Foot.add_Fc.2 (.inr fc)) lv0 e
      have f := Foot.add_Fi.2 (.inr fc.fi : φ.Fi id ∨ ψ.Fi id)
      refine hok.keep (p.io id nn) (fun _ => .inl) (fun i hi => p.io i fun hn => hDN i hn hi) (p.cfr _ hok.lt fun k wk wrk he => ?_) ?_
      · exact H0.inj k id (Foot.add_Fi.2 (.inl wk.fi)) f wrk.lv lv0 (fun e => nwi (e ▸ wk)) he
      · rintro ⟨id', k', wc, wr, hb, ho⟩
        by_cases he : id' = id
        · subst he
          have : k' = k := by omega
          subst this
          exact nw wc
        · exact H0.inj id' id (Foot.add_Fi.2 (.inl wc.fi)) f wr.lv lv0 he hb
  inj := fun _ _ fi fj li lj hij => p.inj H0 (.inl (Foot.add_Fi.2 (.inr fi))) (.inl (Foot.add_Fi.2 (.inr fj))) li lj hij

theorem Post.trans (H0 : HOn P D ι h (φ.add ψ) w) (p : Post P D N ι h w φ ι1 h1 w1) (q : Post P (fun i => D i ∨ N i) M ι1 h1 w1 ψ ι2 h2 w2)
    (hM : ∀ id, M id → ¬ (D id ∨ N id)) (hl : ∀ id, M id → h.hdr id = none) : Post P D (fun i => N i ∨ M i) ι h w (φ.add ψ) ι2 h2 w2 where
  io := fun id hn => (q.io id fun x => hn (.inr x)).trans (p.io id fun x => hn (.inl x))
  size := Nat.le_trans p.size q.size
  os := q.os.trans p.os
  out := q.out.trans p.out
  hdr := by
    intro id x hw e
    by_cases hq : ψ.Wi id ∨ M id
    · exact q.hdr id x hq e
    · have nw : ¬ ψ.Wi id := fun x => hq (.inl x)
      have nm : ¬ M id := fun x => hq (.inr x)
      rw [q.ahdr id nm nw] at e
      have hw1 : φ.Wi id ∨ N id := by
        rcases hw with hw | hw | hw
        · exact .inl ((Foot.add_Wi.1 hw).resolve_right nw)
        · exact .inr hw
        · exact absurd hw nm
      have hok := p.hdr id x hw1 e
      refine hok.keep (q.io id nm) (q.cfr _ hok.lt fun k wk wrk he => ?_)
      refine p.inj H0 (.inl (Foot.add_Fi.2 (.inr wk.fi))) (hw1.imp (fun x => Foot.add_Fi.2 (.inl x.fi)) fun x => x) wrk.lv ⟨x, e⟩ (fun e => nw (e ▸ wk)) he
  cel := by
    intro id k v hw lv e
    by_cases hq : ψ.Wc id k ∨ M id
    · exact (q.cel id k v hq lv e).more fun i hi => by rcases hi with (hi | hi) | hi <;> simp [hi]
    · have nw : ¬ ψ.Wc id k := fun x => hq (.inl x)
      have nm : ¬ M id := fun x => hq (.inr x)
      have nwi : ¬ ψ.Wi id := fun x => nw (x.wc k)
      rw [q.acel id k nm nw] at e
      have lv1 := q.lv nm lv
      have hw1 : φ.Wc id k ∨ N id := by
        rcases hw with hw | hw | hw
        · exact .inl ((Foot.add_Wc.1 hw).resolve_right nw)
        · exact .inr hw
        · exact absurd hw nm
      have hok := p.cel id k v hw1 lv1 e
      have hf : (φ.add ψ).Fi id ∨ N id := hw1.imp (fun x => Foot.add_Fi.2 (.inl x.fi)) fun x => x
      refine hok.keep (q.io id nm) (fun i hi => by rcases hi with hi | hi <;> simp [hi]) (fun i hi => q.io i fun hm => hM i hm hi) (q.cfr _ hok.lt fun k wk wrk he => ?_) ?_
      · exact p.inj H0 (.inl (Foot.add_Fi.2 (.inr wk.fi))) hf wrk.lv lv1 (fun e => nwi (e ▸ wk)) he
      · rintro ⟨id', k', wc, wr, hb, ho⟩
        by_cases he : id' = id
        · subst he
          have : k' = k := by omega
          subst this
          exact nw wc
        · exact p.inj H0 (.inl (Foot.add_Fi.2 (.inr wc.fi))) hf wr.lv lv1 he hb
  ahdr := fun id hn hw => (q.ahdr id (fun x => hn (.inr x)) fun x => hw (Foot.add_Wi.2 (.inr x))).trans (p.ahdr id (fun x => hn (.inl x)) fun x => hw (Foot.add_Wi.2 (.inl x)))
  acel := fun id k hn hw => (q.acel id k (fun x => hn (.inr x)) fun x => hw (Foot.add_Wc.2 (.inr x))).trans (p.acel id k (fun x => hn (.inl x)) fun x => hw (Foot.add_Wc.2 (.inl x)))
  cfr := by
    intro b hb hyp
    have far : ∀ id, N id → Lv h1 id → (ι1 id).blk ≠ b := by
      intro id nid lv
      rcases p.fresh id nid lv with ⟨h1, _⟩ | ⟨k, wk, _, wrk, _, e⟩
      · omega
      · rw [e]; exact hyp k (Foot.add_Wi.2 (.inl wk)) wrk
    have a1 := p.cfr b hb fun id wi wr => hyp id (Foot.add_Wi.2 (.inl wi)) wr
    have a2 := q.cfr b (Nat.lt_of_lt_of_le hb p.size) fun id wi wr => by
      by_cases nid : N id
      · exact far id nid wr.lv
      · rw [p.io id nid]; exact hyp id (Foot.add_Wi.2 (.inr wi)) (p.wrm id nid wr)
    refine (a1.trans a2).mono fun o ho => ?_
    rcases ho with ⟨id, k, wc, wr, h1, h2⟩ | ⟨id, k, wc, wr, h1, h2⟩
    · exact ⟨id, k, Foot.add_Wc.2 (.inl wc), wr, h1, h2⟩
    · by_cases nid : N id
      · exact absurd h1 (far id nid wr.lv)
      · rw [p.io id nid] at h1 h2; exact ⟨id, k, Foot.add_Wc.2 (.inr wc), p.wrm id nid wr, h1, h2⟩
  fresh := by
    have notM : ∀ k, Wr h k → ¬ M k := fun k wr hm => by obtain ⟨y, hy⟩ := wr.lv; rw [hl k hm] at hy; cases hy
    intro id hn lv
    by_cases hm : M id
    · rcases q.fresh id hm lv with ⟨h1, h2⟩ | ⟨k, wk, mk, wrk, dk, e⟩
      · exact .inl ⟨Nat.le_trans p.size h1, h2⟩
      · by_cases nk : N k
        · rcases p.fresh k nk wrk.lv with ⟨h1, h2⟩ | ⟨k', wk', nk', wrk', dk', e'⟩
          · exact .inl ⟨by omega, by have := q.size; omega⟩
          · exact .inr ⟨k', Foot.add_Wi.2 (.inl wk'), fun x => x.elim nk' (notM k' wrk'), wrk', fun l => dk' (q.lv (notM k' wrk') l), e.trans e'⟩
        · exact .inr ⟨k, Foot.add_Wi.2 (.inr wk), fun x => x.elim nk mk, p.wrm k nk wrk, dk, by rw [e, p.io k nk]⟩
    · have nid : N id := hn.resolve_right hm
      rw [q.io id hm]
      rcases p.fresh id nid (q.lv hm lv) with ⟨h1, h2⟩ | ⟨k', wk', nk', wrk', dk', e'⟩
      · exact .inl ⟨h1, Nat.lt_of_lt_of_le h2 q.size⟩
      · exact .inr ⟨k', Foot.add_Wi.2 (.inl wk'), fun x => x.elim nk' (notM k' wrk'), wrk', fun l => dk' (q.lv (notM k' wrk') l), e'⟩
  dist := by
    have mixed : ∀ i j, M i → N j → ¬ M j → Lv h2 i → Lv h2 j → i ≠ j → (ι2 i).blk ≠ (ι2 j).blk := by
      intro i j mi nj mj li lj hij
      rw [q.io j mj]
      obtain ⟨y, hy⟩ := q.lv mj lj
      have hlt := (p.hdr j y (.inr nj) hy).lt
      rcases q.fresh i mi li with ⟨h1, _⟩ | ⟨k, wk, _, wrk, dk, e⟩
      · omega
      · rw [e]
        exact p.inj H0 (.inl (Foot.add_Fi.2 (.inr wk.fi))) (.inr nj) wrk.lv ⟨y, hy⟩ fun e => dk (e ▸ lj)
    intro i j hi hj li lj hij
    by_cases mi : M i
    · by_cases mj : M j
      · exact q.dist i j mi mj li lj hij
      · exact mixed i j mi (hj.resolve_right mj) mj li lj hij
    · by_cases mj : M j
      · exact (mixed j i mj (hi.resolve_right mi) mi lj li hij.symm).symm
      · rw [q.io i mi, q.io j mj]
        exact p.dist i j (hi.resolve_right mi) (hj.resolve_right mj) (q.lv mi li) (q.lv mj lj) hij
  nl := fun id hn => hn.elim (p.nl id) (hl id)
  wl := by
    intro id k hw hn
    have nn : ¬ N id := fun x => hn (.inl x)
    rcases Foot.add_Wc.1 hw with hw | hw
    · exact p.wl id k hw nn
    · exact p.lv nn (q.wl id k hw fun x => hn (.inr x))
  wrm := fun id hn wr => p.wrm id (fun x => hn (.inl x)) (q.wrm id (fun x => hn (.inr x)) wr)
end
end Go.Eng
