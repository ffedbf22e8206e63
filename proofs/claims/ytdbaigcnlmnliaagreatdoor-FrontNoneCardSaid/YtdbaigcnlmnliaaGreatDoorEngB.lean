/-
  The engine, part B: two abstract steps in a row are one. No condition.
-/
import Derived.Test.YtdbaigcnlmnliaaGreatDoorEngA
noncomputable section
namespace Go.Eng
open Go
section
variable {P : Program} {D N M : Nat → Prop} {ι ι1 ι2 : Nat → Reg} {h h1 h2 : H} {w w1 w2 : World} {φ ψ : Foot}

theorem CellOK.lt {D : Nat → Prop} {ι : Nat → Reg} {id k : Nat} {w : World} {v : Value} (h : CellOK D ι id w k v) : (ι id).blk < w.heap.size := by
  obtain ⟨_, v', e, _⟩ := h
  simp only [World.cell?] at e
  rcases Nat.lt_or_ge (ι id).blk w.heap.size with hlt | hge
  · exact hlt
  · rw [Array.getElem?_eq_none hge] at e; cases e

theorem CellOK.more {D D' : Nat → Prop} {ι : Nat → Reg} {id k : Nat} {w : World} {v : Value} (h : CellOK D ι id w k v) (hD : ∀ i, D i → D' i) : CellOK D' ι id w k v :=
  let ⟨ho, v', e, hv⟩ := h; ⟨ho, v', e, hv.mono hD fun _ _ => rfl⟩

theorem Post.lv (p : Post P D N ι h w φ ι1 h1 w1) {id : Nat} (hn : ¬ N id) (hl : Lv h1 id) : Lv h id := by
  by_cases hw : φ.Wi id
  · exact p.wl id 0 (hw.wc 0) hn
  · exact hl.of_hdr (p.ahdr id hn hw)

theorem Post.inj (H0 : HOn P D ι h (φ.add ψ) w) (p : Post P D N ι h w φ ι1 h1 w1) {i j : Nat} (hi : (φ.add ψ).Fi i ∨ N i) (hj : (φ.add ψ).Fi j ∨ N j)
    (li : Lv h1 i) (lj : Lv h1 j) (hij : i ≠ j) (b : Nat) (hb : (ι1 i).Own b) : ¬ (ι1 j).Own b ∧ ¬ (ι1 j).Fz b := by
  have old : ∀ a, ¬ N a → (φ.add ψ).Fi a → Lv h1 a → ∃ y, h.hdr a = some y ∧ HdrOK P ι a w y := fun a na fa la => by
    obtain ⟨y, hy⟩ := p.lv na la
    exact ⟨y, hy, H0.hd a y fa hy⟩
  -- a new one, and one that was there
  have mixed : ∀ a c, N a → ¬ N c → (φ.add ψ).Fi c → Lv h1 a → Lv h1 c → a ≠ c → ∀ b, ((ι1 a).Own b → ¬ (ι1 c).Own b ∧ ¬ (ι1 c).Fz b) ∧ ((ι1 c).Own b → ¬ (ι1 a).Fz b) := by
    intro a c na nc fc la lc hac b
    rw [p.io c nc]
    obtain ⟨y, hy, hok⟩ := old c nc fc lc
    refine ⟨fun hb => ?_, fun hc hb => ?_⟩
    · rcases p.fresh a na la b hb with ⟨h1, _⟩ | ⟨k, wk, nk, wrk, dk, e⟩
      · exact ⟨fun x => by have := hok.lt (.inl x); omega, fun x => by have := hok.lt (.inr x); omega⟩
      · exact H0.inj k c (Foot.add_Fi.2 (.inl wk.fi)) fc wrk.lv ⟨y, hy⟩ (fun e => dk (e ▸ lc)) b e
    · rcases p.freshF a na la b hb with ⟨h1, _⟩ | ⟨k, wk, nk, wrk, dk, e⟩ | ⟨k, fk, nk, lk, e⟩
      · have := hok.lt (.inl hc); omega
      · exact (H0.inj k c (Foot.add_Fi.2 (.inl wk.fi)) fc wrk.lv ⟨y, hy⟩ (fun e => dk (e ▸ lc)) b e).1 hc
      · by_cases hkc : k = c
        · subst hkc; exact hok.self hc e
        · exact (H0.inj c k fc (Foot.add_Fi.2 (.inl fk)) ⟨y, hy⟩ lk (Ne.symm hkc) b hc).2 e
  by_cases ni : N i
  · by_cases nj : N j
    · exact p.dist i j ni nj li lj hij b hb
    · exact (mixed i j ni nj (hj.resolve_right nj) li lj hij b).1 hb
  · by_cases nj : N j
    · have m := mixed j i nj ni (hi.resolve_right ni) lj li hij.symm b
      exact ⟨fun x => (m.1 x).1 hb, m.2 hb⟩
    · rw [p.io i ni] at hb
      rw [p.io j nj]
      exact H0.inj i j (hi.resolve_right ni) (hj.resolve_right nj) (p.lv ni li) (p.lv nj lj) hij b hb

/-- what holds of memory where the second step looks -/
theorem Post.hon (H0 : HOn P D ι h (φ.add ψ) w) (p : Post P D N ι h w φ ι1 h1 w1) (hDN : ∀ id, N id → ¬ D id) : HOn P (fun i => D i ∨ N i) ι1 h1 ψ w1 where
  hd := by
    intro id x fi e
    by_cases hw : φ.Wi id ∨ N id
    · exact p.hdr id x hw e
    · have nw : ¬ φ.Wi id := fun x => hw (.inl x)
      have nn : ¬ N id := fun x => hw (.inr x)
      rw [p.ahdr id nn nw] at e
      have f := Foot.add_Fi.2 (.inr fi : φ.Fi id ∨ ψ.Fi id)
      have hok := H0.hd id x f e
      refine hok.keep (S := fun b o => ∃ id' k, φ.Wc id' k ∧ Wr h id' ∧ (ι id').Own b ∧ (ι id').base + k = o) (p.io id nn) (fun b hb => p.cfr b (hok.lt hb) fun k wk wrk he => ?_) ?_
      · have := H0.inj k id (Foot.add_Fi.2 (.inl wk.fi)) f wrk.lv ⟨x, e⟩ (fun e => nw (e ▸ wk)) b he
        exact hb.elim this.1 this.2
      · by_cases hx : ∃ l e ro, x = .row l e ro
        · exact .inl hx
        · refine .inr fun b hb o => ?_
          rintro ⟨id', k, wc, wr, ho, _⟩
          by_cases he : id' = id
          · subst he
            obtain ⟨l, e', ro, hr⟩ := p.wrow _ _ wc nw nn
            rw [e] at hr; cases hr
            exact hx ⟨_, _, _, rfl⟩
          · have := H0.inj id' id (Foot.add_Fi.2 (.inl wc.fi)) f wr.lv ⟨x, e⟩ he b ho
            exact hb.elim this.1 this.2
  ce := by
    intro id k v fc lv e
    by_cases hw : φ.Wc id k ∨ N id
    · exact p.cel id k v hw lv e
    · have nw : ¬ φ.Wc id k := fun x => hw (.inl x)
      have nn : ¬ N id := fun x => hw (.inr x)
      have nwi : ¬ φ.Wi id := fun x => nw (x.wc k)
      rw [p.acel id k nn nw] at e
      have lv0 := p.lv nn lv
      have hok := H0.ce id k v (Foot.add_Fc.2 (.inr fc)) lv0 e
      have f := Foot.add_Fi.2 (.inr fc.fi : φ.Fi id ∨ ψ.Fi id)
      have hown : (ι id).Own (ι id).blk := ⟨hok.1, rfl⟩
      refine hok.keep (p.io id nn) (fun _ => .inl) (fun i hi => p.io i fun hn => hDN i hn hi) (p.cfr _ hok.lt fun k wk wrk he => ?_) ?_
      · exact (H0.inj k id (Foot.add_Fi.2 (.inl wk.fi)) f wrk.lv lv0 (fun e => nwi (e ▸ wk)) _ he).1 hown
      · rintro ⟨id', k', wc, wr, hb, ho⟩
        by_cases he : id' = id
        · subst he
          have : k' = k := by omega
          subst this
          exact nw wc
        · exact (H0.inj id' id (Foot.add_Fi.2 (.inl wc.fi)) f wr.lv lv0 he _ hb).1 hown
  inj := fun _ _ fi fj li lj hij => p.inj H0 (.inl (Foot.add_Fi.2 (.inr fi))) (.inl (Foot.add_Fi.2 (.inr fj))) li lj hij

theorem Post.trans (H0 : HOn P D ι h (φ.add ψ) w) (p : Post P D N ι h w φ ι1 h1 w1) (q : Post P (fun i => D i ∨ N i) M ι1 h1 w1 ψ ι2 h2 w2)
    (hM : ∀ id, M id → ¬ (D id ∨ N id)) (hl : ∀ id, M id → h.hdr id = none) : Post P D (fun i => N i ∨ M i) ι h w (φ.add ψ) ι2 h2 w2 where
  io := fun id hn => (q.io id fun x => hn (.inr x)).trans (p.io id fun x => hn (.inl x))
  size := Nat.le_trans p.size q.size
  os := q.os.trans p.os
  out := q.out.trans p.out
  hdr := by
    intro id x hw e
    by_cases hq : ψ.Wi id ∨ M id
    · exact q.hdr id x hq e
    · have nw : ¬ ψ.Wi id := fun x => hq (.inl x)
      have nm : ¬ M id := fun x => hq (.inr x)
      rw [q.ahdr id nm nw] at e
      have hw1 : φ.Wi id ∨ N id := by
        rcases hw with hw | hw | hw
        · exact .inl ((Foot.add_Wi.1 hw).resolve_right nw)
        · exact .inr hw
        · exact absurd hw nm
      have hok := p.hdr id x hw1 e
      have hf : (φ.add ψ).Fi id ∨ N id := hw1.imp (fun x => Foot.add_Fi.2 (.inl x.fi)) fun x => x
      refine hok.keep (S := fun b o => ∃ id' k, ψ.Wc id' k ∧ Wr h1 id' ∧ (ι1 id').Own b ∧ (ι1 id').base + k = o) (q.io id nm) (fun b hb => q.cfr b (hok.lt hb) fun k wk wrk he => ?_) ?_
      · have := p.inj H0 (.inl (Foot.add_Fi.2 (.inr wk.fi))) hf wrk.lv ⟨x, e⟩ (fun e => nw (e ▸ wk)) b he
        exact hb.elim this.1 this.2
      · by_cases hx : ∃ l e ro, x = .row l e ro
        · exact .inl hx
        · refine .inr fun b hb o => ?_
          rintro ⟨id', k, wc, wr, ho, _⟩
          by_cases he : id' = id
          · subst he
            obtain ⟨l, e', ro, hr⟩ := q.wrow _ _ wc nw nm
            rw [e] at hr; cases hr
            exact hx ⟨_, _, _, rfl⟩
          · have := p.inj H0 (.inl (Foot.add_Fi.2 (.inr wc.fi))) hf wr.lv ⟨x, e⟩ he b ho
            exact hb.elim this.1 this.2
  cel := by
    intro id k v hw lv e
    by_cases hq : ψ.Wc id k ∨ M id
    · exact (q.cel id k v hq lv e).more fun i hi => by rcases hi with (hi | hi) | hi <;> simp [hi]
    · have nw : ¬ ψ.Wc id k := fun x => hq (.inl x)
      have nm : ¬ M id := fun x => hq (.inr x)
      have nwi : ¬ ψ.Wi id := fun x => nw (x.wc k)
      rw [q.acel id k nm nw] at e
      have lv1 := q.lv nm lv
      have hw1 : φ.Wc id k ∨ N id := by
        rcases hw with hw | hw | hw
        · exact .inl ((Foot.add_Wc.1 hw).resolve_right nw)
        · exact .inr hw
        · exact absurd hw nm
      have hok := p.cel id k v hw1 lv1 e
      have hf : (φ.add ψ).Fi id ∨ N id := hw1.imp (fun x => Foot.add_Fi.2 (.inl x.fi)) fun x => x
      have hown : (ι1 id).Own (ι1 id).blk := ⟨hok.1, rfl⟩
      refine hok.keep (q.io id nm) (fun i hi => by rcases hi with hi | hi <;> simp [hi]) (fun i hi => q.io i fun hm => hM i hm hi) (q.cfr _ hok.lt fun k wk wrk he => ?_) ?_
      · exact (p.inj H0 (.inl (Foot.add_Fi.2 (.inr wk.fi))) hf wrk.lv lv1 (fun e => nwi (e ▸ wk)) _ he).1 hown
      · rintro ⟨id', k', wc, wr, hb, ho⟩
        by_cases he : id' = id
        · subst he
          have : k' = k := by omega
          subst this
          exact nw wc
        · exact (p.inj H0 (.inl (Foot.add_Fi.2 (.inr wc.fi))) hf wr.lv lv1 he _ hb).1 hown
  ahdr := fun id hn hw => (q.ahdr id (fun x => hn (.inr x)) fun x => hw (Foot.add_Wi.2 (.inr x))).trans (p.ahdr id (fun x => hn (.inl x)) fun x => hw (Foot.add_Wi.2 (.inl x)))
  acel := fun id k hn hw => (q.acel id k (fun x => hn (.inr x)) fun x => hw (Foot.add_Wc.2 (.inr x))).trans (p.acel id k (fun x => hn (.inl x)) fun x => hw (Foot.add_Wc.2 (.inl x)))
  cfr := by
    intro b hb hyp
    have far : ∀ id, N id → Lv h1 id → ¬ (ι1 id).Own b := by
      intro id nid lv ho
      rcases p.fresh id nid lv b ho with ⟨h1, _⟩ | ⟨k, wk, _, wrk, _, e⟩
      · omega
      · exact hyp k (Foot.add_Wi.2 (.inl wk)) wrk e
    have a1 := p.cfr b hb fun id wi wr => hyp id (Foot.add_Wi.2 (.inl wi)) wr
    have a2 := q.cfr b (Nat.lt_of_lt_of_le hb p.size) fun id wi wr => by
      by_cases nid : N id
      · exact far id nid wr.lv
      · rw [p.io id nid]; exact hyp id (Foot.add_Wi.2 (.inr wi)) (p.wrm id nid wr)
    refine (a1.trans a2).mono fun o ho => ?_
    rcases ho with ⟨id, k, wc, wr, h1, h2⟩ | ⟨id, k, wc, wr, h1, h2⟩
    · exact ⟨id, k, Foot.add_Wc.2 (.inl wc), wr, h1, h2⟩
    · by_cases nid : N id
      · exact absurd h1 (far id nid wr.lv)
      · rw [p.io id nid] at h1 h2; exact ⟨id, k, Foot.add_Wc.2 (.inr wc), p.wrm id nid wr, h1, h2⟩
  fresh := by
    have notM : ∀ k, Wr h k → ¬ M k := fun k wr hm => by obtain ⟨y, hy⟩ := wr.lv; rw [hl k hm] at hy; cases hy
    intro id hn lv b hb
    by_cases hm : M id
    · rcases q.fresh id hm lv b hb with ⟨h1, h2⟩ | ⟨k, wk, mk, wrk, dk, e⟩
      · exact .inl ⟨Nat.le_trans p.size h1, h2⟩
      · by_cases nk : N k
        · rcases p.fresh k nk wrk.lv b e with ⟨h1, h2⟩ | ⟨k', wk', nk', wrk', dk', e'⟩
          · exact .inl ⟨by omega, by have := q.size; omega⟩
          · exact .inr ⟨k', Foot.add_Wi.2 (.inl wk'), fun x => x.elim nk' (notM k' wrk'), wrk', fun l => dk' (q.lv (notM k' wrk') l), e'⟩
        · exact .inr ⟨k, Foot.add_Wi.2 (.inr wk), fun x => x.elim nk mk, p.wrm k nk wrk, dk, by rw [p.io k nk] at e; exact e⟩
    · have nid : N id := hn.resolve_right hm
      rw [q.io id hm] at hb
      rcases p.fresh id nid (q.lv hm lv) b hb with ⟨h1, h2⟩ | ⟨k', wk', nk', wrk', dk', e'⟩
      · exact .inl ⟨h1, Nat.lt_of_lt_of_le h2 q.size⟩
      · exact .inr ⟨k', Foot.add_Wi.2 (.inl wk'), fun x => x.elim nk' (notM k' wrk'), wrk', fun l => dk' (q.lv (notM k' wrk') l), e'⟩
  freshF := by
    have notML : ∀ k, Lv h k → ¬ M k := fun k wr hm => by obtain ⟨y, hy⟩ := wr; rw [hl k hm] at hy; cases hy
    have notM : ∀ k, Wr h k → ¬ M k := fun k wr => notML k wr.lv
    have back : ∀ id, N id → ¬ M id → Lv h1 id → ∀ b, (ι1 id).Fz b → (w.heap.size ≤ b ∧ b < w2.heap.size) ∨ (∃ k, (φ.add ψ).Wi k ∧ ¬ (N k ∨ M k) ∧ Wr h k ∧ ¬ Lv h2 k ∧ (ι k).Own b) ∨ ∃ k, (φ.add ψ).Fi k ∧ ¬ (N k ∨ M k) ∧ Lv h k ∧ (ι k).Fz b := by
      intro id nid nm lv b hb
      rcases p.freshF id nid lv b hb with ⟨h1, h2⟩ | ⟨k', wk', nk', wrk', dk', e'⟩ | ⟨k', fk', nk', lk', e'⟩
      · exact .inl ⟨h1, Nat.lt_of_lt_of_le h2 q.size⟩
      · exact .inr (.inl ⟨k', Foot.add_Wi.2 (.inl wk'), fun x => x.elim nk' (notM k' wrk'), wrk', fun l => dk' (q.lv (notM k' wrk') l), e'⟩)
      · exact .inr (.inr ⟨k', Foot.add_Fi.2 (.inl fk'), fun x => x.elim nk' (notML k' lk'), lk', e'⟩)
    intro id hn lv b hb
    by_cases hm : M id
    · rcases q.freshF id hm lv b hb with ⟨h1, h2⟩ | ⟨k, wk, mk, wrk, dk, e⟩ | ⟨k, fk, mk, lk, e⟩
      · exact .inl ⟨Nat.le_trans p.size h1, h2⟩
      · by_cases nk : N k
        · rcases p.fresh k nk wrk.lv b e with ⟨h1, h2⟩ | ⟨k', wk', nk', wrk', dk', e'⟩
          · exact .inl ⟨by omega, by have := q.size; omega⟩
          · exact .inr (.inl ⟨k', Foot.add_Wi.2 (.inl wk'), fun x => x.elim nk' (notM k' wrk'), wrk', fun l => dk' (q.lv (notM k' wrk') l), e'⟩)
        · exact .inr (.inl ⟨k, Foot.add_Wi.2 (.inr wk), fun x => x.elim nk mk, p.wrm k nk wrk, dk, by rw [p.io k nk] at e; exact e⟩)
      · by_cases nk : N k
        · exact back k nk mk lk b e
        · exact .inr (.inr ⟨k, Foot.add_Fi.2 (.inr fk), fun x => x.elim nk mk, p.lv nk lk, by rw [p.io k nk] at e; exact e⟩)
    · have nid : N id := hn.resolve_right hm
      rw [q.io id hm] at hb
      exact back id nid hm (q.lv hm lv) b hb
  dist := by
    have mixed : ∀ i j, M i → N j → ¬ M j → Lv h2 i → Lv h2 j → i ≠ j → ∀ b, ((ι2 i).Own b → ¬ (ι2 j).Own b ∧ ¬ (ι2 j).Fz b) ∧ ((ι2 j).Own b → ¬ (ι2 i).Fz b) := by
      intro i j mi nj mj li lj hij b
      rw [q.io j mj]
      obtain ⟨y, hy⟩ := q.lv mj lj
      have hok := p.hdr j y (.inr nj) hy
      refine ⟨fun hb => ?_, fun hc hb => ?_⟩
      · rcases q.fresh i mi li b hb with ⟨h1, _⟩ | ⟨k, wk, _, wrk, dk, e⟩
        · exact ⟨fun x => by have := hok.lt (.inl x); omega, fun x => by have := hok.lt (.inr x); omega⟩
        · exact p.inj H0 (.inl (Foot.add_Fi.2 (.inr wk.fi))) (.inr nj) wrk.lv ⟨y, hy⟩ (fun e => dk (e ▸ lj)) b e
      · rcases q.freshF i mi li b hb with ⟨h1, _⟩ | ⟨k, wk, _, wrk, dk, e⟩ | ⟨k, fk, _, lk, e⟩
        · have := hok.lt (.inl hc); omega
        · exact (p.inj H0 (.inl (Foot.add_Fi.2 (.inr wk.fi))) (.inr nj) wrk.lv ⟨y, hy⟩ (fun e => dk (e ▸ lj)) b e).1 hc
        · by_cases hkj : k = j
          · subst hkj; exact hok.self hc e
          · exact (p.inj H0 (.inr nj) (.inl (Foot.add_Fi.2 (.inr fk))) ⟨y, hy⟩ lk (Ne.symm hkj) b hc).2 e
    intro i j hi hj li lj hij b hb
    by_cases mi : M i
    · by_cases mj : M j
      · exact q.dist i j mi mj li lj hij b hb
      · exact (mixed i j mi (hj.resolve_right mj) mj li lj hij b).1 hb
    · by_cases mj : M j
      · have m := mixed j i mj (hi.resolve_right mi) mi lj li hij.symm b
        exact ⟨fun x => (m.1 x).1 hb, m.2 hb⟩
      · rw [q.io i mi] at hb
        rw [q.io j mj]
        exact p.dist i j (hi.resolve_right mi) (hj.resolve_right mj) (q.lv mi li) (q.lv mj lj) hij b hb
  nl := fun id hn => hn.elim (p.nl id) (hl id)
  wl := by
    intro id k hw hn
    have nn : ¬ N id := fun x => hn (.inl x)
    rcases Foot.add_Wc.1 hw with hw | hw
    · exact p.wl id k hw nn
    · exact p.lv nn (q.wl id k hw fun x => hn (.inr x))
  wrm := fun id hn wr => p.wrm id (fun x => hn (.inl x)) (q.wrm id (fun x => hn (.inr x)) wr)
  wrow := by
    intro id k hw hwi hn
    have nn : ¬ N id := fun x => hn (.inl x)
    have nm : ¬ M id := fun x => hn (.inr x)
    have nw : ¬ φ.Wi id := fun x => hwi (Foot.add_Wi.2 (.inl x))
    rcases Foot.add_Wc.1 hw with hw | hw
    · exact p.wrow id k hw nw nn
    · have := q.wrow id k hw (fun x => hwi (Foot.add_Wi.2 (.inr x))) nm
      rw [p.ahdr id nn nw] at this
      exact this
end
end Go.Eng
