/- Those that go are the oldest of those that may: for every state and feed. -/
import Derived.Test.YtcpojadlnpnbaaaXRetTellRetainOldest
import Derived.Test.YtcpojadlnpnbaaaXRetBase
namespace Go.Proofs.Ytcpojadlnpnbaaa.XRet
open Go.RowKit Go.Proofs.YtcpojadlnpnbaaaW.PrintWords Go.Proofs.YtcpojadlnpnbaaaW.PrintLast Go.Proofs.YtcpojadlnpnbaaaW.PrintMore
set_option linter.unusedVariables false
set_option linter.unusedSimpArgs false

theorem uniq {l : List E} (hd : (l.map (·.f0)).Nodup) {x y : E} (hx : x ∈ l) (hy : y ∈ l) (e : x.f0 = y.f0) : x = y := by
  obtain ⟨i, hi, rfl⟩ := List.mem_iff_getElem.mp hx
  obtain ⟨j, hj, rfl⟩ := List.mem_iff_getElem.mp hy
  have hp := List.pairwise_iff_getElem.mp hd
  rcases Nat.lt_trichotomy i j with h | h | h
  · exact absurd (by rw [List.getElem_map, List.getElem_map]; exact e) (hp i j (by simpa using hi) (by simpa using hj) h)
  · subst h; rfl
  · exact absurd (by rw [List.getElem_map, List.getElem_map]; exact e.symm) (hp j i (by simpa using hj) (by simpa using hi) h)
theorem cand_mem {feed : Int} {l : List E} {x : E} : x ∈ cand feed l ↔ x ∈ l ∧ mayB feed x = true := List.mem_filter
theorem goes_iff {feed : Int} {l S : List E} (hd : (l.map (·.f0)).Nodup) (hp : S.Perm (cand feed l)) (n : Nat) {x : E} (hx : x ∈ l) : x.f0 ∈ (S.take n).map (·.f0) ↔ x ∈ S.take n := by
  constructor
  · intro h
    obtain ⟨y, hy, e⟩ := List.mem_map.mp h
    have := (cand_mem.mp (hp.mem_iff.mp (List.mem_of_mem_take hy))).1
    rw [← uniq hd this hx e]
    exact hy
  · exact fun h => List.mem_map.mpr ⟨x, h, rfl⟩
def goesB (ids : List Int) (x : E) : Bool := decide (x.f0 ∈ ids)
def c1 (feed : Int) (ids : List Int) (l : List E) : Nat := (l.filter (fun x => pubB feed x && !goesB ids x)).length
def c2 (feed : Int) (ids : List Int) (l : List E) : Nat := (l.filter (fun x => mayB feed x && !goesB ids x)).length
theorem may_pub {feed : Int} {x : E} (h : mayB feed x = true) : pubB feed x = true := by
  unfold mayB at h
  unfold pubB
  simp at h ⊢
  exact ⟨h.1.1.1, h.1.1.2⟩
theorem split_count (p g : E → Bool) (l : List E) : (l.filter p).length = (l.filter (fun x => p x && g x)).length + (l.filter (fun x => p x && !g x)).length := by
  induction l with
  | nil => rfl
  | cons x l ih =>
    simp only [List.filter_cons]
    cases p x <;> cases g x <;> simp <;> omega
theorem take_goes {feed : Int} {l S : List E} (hd : (l.map (·.f0)).Nodup) (hp : S.Perm (cand feed l)) (hs : S.Pairwise lt) (n : Nat) : S.filter (goesB ((S.take n).map (·.f0))) = S.take n ∧ S.filter (fun x => !goesB ((S.take n).map (·.f0)) x) = S.drop n := by
  have hS : ∀ x ∈ S, x ∈ l := fun x hx => (cand_mem.mp (hp.mem_iff.mp hx)).1
  have h1 : ∀ x ∈ S.take n, goesB ((S.take n).map (·.f0)) x = true := fun x hx => decide_eq_true (List.mem_map.mpr ⟨x, hx, rfl⟩)
  have h2 : ∀ x ∈ S.drop n, goesB ((S.take n).map (·.f0)) x = false := fun x hx => by
    refine decide_eq_false (fun h => ?_)
    have h3 := (goes_iff hd hp n (hS x (List.mem_of_mem_drop hx))).mp h
    have h4 := hs
    rw [← List.take_append_drop n S, List.pairwise_append] at h4
    have := h4.2.2 x h3 x hx
    unfold lt at this
    omega
  constructor
  · generalize goesB ((S.take n).map (·.f0)) = q at h1 h2
    conv => lhs; rw [← List.take_append_drop n S]
    rw [List.filter_append, List.filter_eq_self.mpr h1, List.filter_eq_nil_iff.mpr (fun x hx => by rw [h2 x hx]; decide), List.append_nil]
  · generalize goesB ((S.take n).map (·.f0)) = q at h1 h2
    conv => lhs; rw [← List.take_append_drop n S]
    rw [List.filter_append, List.filter_eq_nil_iff.mpr (fun x hx => by simp [h1 x hx]), List.filter_eq_self.mpr (fun x hx => by simp [h2 x hx]), List.nil_append]
theorem c2_law {feed : Int} {l S : List E} (hd : (l.map (·.f0)).Nodup) (hp : S.Perm (cand feed l)) (hs : S.Pairwise lt) (n : Nat) : c2 feed ((S.take n).map (·.f0)) l = S.length - n := by
  unfold c2
  rw [← List.filter_filter]
  have h := (hp.filter (fun x => !goesB ((S.take n).map (·.f0)) x)).length_eq
  rw [(take_goes hd hp hs n).2, List.length_drop] at h
  rw [h]
  unfold cand
  rw [List.filter_filter, List.filter_filter]
  congr 1
  apply List.filter_congr
  intro x _
  exact Bool.and_comm _ _
theorem c1_law {feed : Int} {l S : List E} (hd : (l.map (·.f0)).Nodup) (hp : S.Perm (cand feed l)) (hs : S.Pairwise lt) (n : Nat) : c1 feed ((S.take n).map (·.f0)) l + min n S.length = npub feed l := by
  have h1 := split_count (pubB feed) (goesB ((S.take n).map (·.f0))) l
  have h2 : (l.filter (fun x => pubB feed x && goesB ((S.take n).map (·.f0)) x)).length = min n S.length := by
    have h := (hp.filter (goesB ((S.take n).map (·.f0)))).length_eq
    rw [(take_goes hd hp hs n).1, List.length_take] at h
    rw [h]
    unfold cand
    rw [List.filter_filter]
    congr 1
    apply List.filter_congr
    intro x hx
    cases hg : goesB ((S.take n).map (·.f0)) x with
    | false => simp
    | true =>
      have h3 := (goes_iff hd hp n hx).mp (of_decide_eq_true hg)
      have h4 := (cand_mem.mp (hp.mem_iff.mp (List.mem_of_mem_take h3))).2
      rw [may_pub h4, h4]
  unfold c1 npub
  omega

theorem may_now (feed : Int) (x : E) : newsreelref41_May.f x.f0 x.f1 x.f2 x.f3 x.f4 x.f5 x.f6 x.f7 x.f8 x.f9 x.f10 x.f11 x.f12 x.f13 x.f14 x.f15 x.f16 x.f17 x.f18 x.f19 feed = some (mayB feed x) := by
  unfold newsreelref41_May.f mayB
  by_cases c1 : x.f1 = feed <;> by_cases c2 : x.f7 = 3 <;> cases c3 : x.f9 <;> simp [c1, c2] <;> rfl
/-- Does one go? -/
theorem goes_l1 (feed x6 x7 x8 keep q nf ne : Int) (l4 : List S43) (l : List E) (ids : List Int) (hi : ids.length ≤ 1000) (x : E) (G : Bool → Prop)
    (hc : T (fun k => newsreellaw41_RetainOldest.j3 k feed ids x6 x7 x8 (goesB ids x) (goesB ids x && !mayB feed x) keep q nf ne l4 l x.f0 x.f1 x.f2 x.f3 x.f4 x.f5 x.f6 x.f7 x.f8 x.f9 x.f10 x.f11 x.f12 x.f13 x.f14 x.f15 x.f16 x.f17 x.f18 x.f19) G) : ∀ (n i : Nat), i + n = ids.length →
    T (fun k => newsreellaw41_RetainOldest.l1 k feed ids x6 x7 x8 (goesB (ids.take i) x) (i : Int) keep q nf ne l4 l x.f0 x.f1 x.f2 x.f3 x.f4 x.f5 x.f6 x.f7 x.f8 x.f9 x.f10 x.f11 x.f12 x.f13 x.f14 x.f15 x.f16 x.f17 x.f18 x.f19) G := by
  intro n
  induction n with
  | zero =>
    intro i h
    refine T.succ (fun k => by rw [newsreellaw41_RetainOldest.l1]) ?_
    refine T.no (by omega) ?_
    rw [List.take_of_length_le (by omega)]
    refine T.ite (fun c => ?_) (fun c => ?_)
    · refine T.bind (f := fun _ => newsreelref41_May.f x.f0 x.f1 x.f2 x.f3 x.f4 x.f5 x.f6 x.f7 x.f8 x.f9 x.f10 x.f11 x.f12 x.f13 x.f14 x.f15 x.f16 x.f17 x.f18 x.f19 feed) (T.now (may_now feed x) (G := fun b => b = mayB feed x) rfl) (fun b hb => ?_)
      rw [c, Bool.true_and] at hc
      rw [c, hb]
      exact hc
    · have c' : goesB ids x = false := by simpa using c
      rw [c', Bool.false_and] at hc
      rw [c']
      exact hc
  | succ n ih =>
    intro i h
    have ih' := ih (i + 1) (by omega)
    have hg : goesB (ids.take (i + 1)) x = (goesB (ids.take i) x || (ids[i] == x.f0)) := by
      unfold goesB
      have hm : x.f0 ∈ ids.take (i + 1) ↔ (x.f0 ∈ ids.take i ∨ ids[i] = x.f0) := by
        rw [List.take_succ_eq_append_getElem (show i < ids.length by omega), List.mem_append, List.mem_singleton]
        exact ⟨fun h => h.imp id Eq.symm, fun h => h.imp id Eq.symm⟩
      by_cases h1 : x.f0 ∈ ids.take i
      · rw [decide_eq_true h1, decide_eq_true (hm.mpr (Or.inl h1)), Bool.true_or]
      · by_cases h2 : ids[i] = x.f0
        · rw [decide_eq_true (hm.mpr (Or.inr h2)), decide_eq_false h1, Bool.false_or, beq_iff_eq.mpr h2]
        · rw [decide_eq_false (fun h => (hm.mp h).elim h1 h2), decide_eq_false h1, Bool.false_or, beq_eq_false_iff_ne.mpr h2]
    rw [hg, show ((i + 1 : Nat) : Int) = (i : Int) + 1 by omega] at ih'
    refine T.succ (fun k => by rw [newsreellaw41_RetainOldest.l1]) ?_
    rw [w64 (n := (i : Int) + 1), rdi (l := ids) (i := i) (by omega)]
    refine T.yes (by omega) (T.ite (fun c => ?_) (fun c => ?_))
    · rw [c, Bool.true_or] at ih'
      exact ih'
    · have c' : goesB (ids.take i) x = false := by simpa using c
      rw [c', Bool.false_or] at ih'
      exact T.yes (by omega) ih'
/-- Those that go are older. -/
theorem dates_l2 (feed x6 x7 x8 keep q nf ne : Int) (l4 : List S43) (l : List E) (hl : l.length ≤ 34) (ids : List Int) (hi : ids.length ≤ 1000) (x : E) (G : Bool → Prop)
    (hall : ∀ id ∈ ids, ∃ y : E, l.find? (fun z => z.f0 == id) = some y ∧ lt y x)
    (hc : T (fun k => newsreellaw41_RetainOldest.l0 k feed ids x6 x7 (wrap64 (x8 + 1)) keep q nf ne l4 l) G) : ∀ (n i : Nat), i + n = ids.length →
    T (fun k => newsreellaw41_RetainOldest.l2 k feed ids x6 x7 x8 (i : Int) keep q nf ne l4 l x.f0 x.f1 x.f2 x.f3 x.f4 x.f5 x.f6 x.f7 x.f8 x.f9 x.f10 x.f11 x.f12 x.f13 x.f14 x.f15 x.f16 x.f17 x.f18 x.f19) G := by
  intro n
  induction n with
  | zero =>
    intro i h
    exact T.succ (fun k => by rw [newsreellaw41_RetainOldest.l2]) (T.no (by omega) hc)
  | succ n ih =>
    intro i h
    have ih' := ih (i + 1) (by omega)
    rw [show ((i + 1 : Nat) : Int) = (i : Int) + 1 by omega] at ih'
    refine T.succ (fun k => by rw [newsreellaw41_RetainOldest.l2]) ?_
    rw [w64 (n := (i : Int) + 1), rdi (l := ids) (i := i) (by omega)]
    refine T.yes (by omega) (T.yes (by omega) ?_)
    obtain ⟨y, hy, hlt⟩ := hall ids[i] (List.getElem_mem _)
    refine T.bind (ep_law ids[i] keep q nf ne l4 l hl) (fun t ht => ?_)
    rw [hy] at ht
    subst ht
    unfold lt at hlt
    refine T.no (show ¬ y.f5 > x.f5 by omega) (T.ite (fun c => T.no ?_ ih') (fun _ => ih'))
    have c' : y.f5 = x.f5 := c
    show ¬ y.f0 > x.f0
    omega
theorem old_l0 (feed keep q nf ne : Int) (l4 : List S43) (l : List E) (hl : l.length ≤ 34) (hd : (l.map (·.f0)).Nodup) (S : List E) (hp : S.Perm (cand feed l)) (hs : S.Pairwise lt) (n : Nat) (hn : n = ((npub feed l : Int) - mx 0 keep).toNat) :
    ∀ (R P : List E), l = P ++ R → T (fun k => newsreellaw41_RetainOldest.l0 k feed ((S.take n).map (·.f0)) (c1 feed ((S.take n).map (·.f0)) P : Int) (c2 feed ((S.take n).map (·.f0)) P : Int) (P.length : Int) keep q nf ne l4 l) (fun r => r = true) := by
  have hSl : S.length ≤ 34 := by have := hp.length_eq; have := cand_le feed l; omega
  have hil : ((S.take n).map (·.f0)).length ≤ 1000 := by simp; omega
  intro R
  induction R with
  | nil =>
    intro P hP
    have hP' : P = l := by rw [hP]; simp
    subst hP'
    refine T.succ (fun k => by rw [newsreellaw41_RetainOldest.l0]) (T.no (by omega) ?_)
    have k1 := c1_law hd hp hs n
    rw [c2_law hd hp hs n]
    have hlen : (((S.take n).map (·.f0)).length : Int) = ((min n S.length : Nat) : Int) := by simp
    rw [hlen]
    generalize c1 feed ((S.take n).map (·.f0)) P = u at k1
    have hub := npub_le feed P
    have ok : T (fun k => (newsreellaw41_awake.f k).bind fun t => some t) (fun r => r = true) := T.bind awake_law (fun b hb => T.ret hb)
    have hm : mx 0 keep = if 0 < keep then keep else 0 := rfl
    by_cases hk : 0 < keep
    · rw [if_pos hk] at hm
      refine T.ite (fun d => T.ite (fun _ => ok) (fun d1 => T.ite (fun _ => ok) (fun d2 => ?_))) (fun d => T.yes (by omega) (T.ite (fun _ => ok) (fun d1 => T.ite (fun _ => ok) (fun d2 => ?_))))
      · exfalso; omega
      · exfalso; omega
    · rw [if_neg hk] at hm
      refine T.ite (fun d => T.ite (fun _ => ok) (fun d1 => T.ite (fun _ => ok) (fun d2 => ?_))) (fun d => T.yes (by omega) (T.ite (fun _ => ok) (fun d1 => T.ite (fun _ => ok) (fun d2 => ?_))))
      · refine T.ite (fun d3 => T.ite (fun _ => ok) (fun d4 => ?_)) (fun d3 => ?_)
        · exfalso; omega
        · exfalso; omega
      · refine T.ite (fun d3 => T.ite (fun _ => ok) (fun d4 => ?_)) (fun d3 => ?_)
        · exfalso; omega
        · exfalso; omega
  | cons x R ih =>
    intro P hP
    have hlen : l.length = P.length + R.length + 1 := by rw [hP]; simp; omega
    have hx : x ∈ l := by rw [hP]; simp
    have ih' := ih (P ++ [x]) (by rw [hP]; simp)
    generalize hids : (S.take n).map (·.f0) = ids at ih' hil
    have e1 : c1 feed ids (P ++ [x]) = c1 feed ids P + (if (pubB feed x && !goesB ids x) = true then 1 else 0) := by
      unfold c1
      rw [List.filter_append, List.length_append]
      by_cases h : (pubB feed x && !goesB ids x) = true <;> simp [h]
    have e2 : c2 feed ids (P ++ [x]) = c2 feed ids P + (if (mayB feed x && !goesB ids x) = true then 1 else 0) := by
      unfold c2
      rw [List.filter_append, List.length_append]
      by_cases h : (mayB feed x && !goesB ids x) = true <;> simp [h]
    have b1 : c1 feed ids P ≤ P.length := List.length_filter_le _ _
    have b2 : c2 feed ids P ≤ P.length := List.length_filter_le _ _
    rw [e1, e2, show (((P ++ [x]).length : Nat) : Int) = (P.length : Int) + 1 by simp] at ih'
    refine T.succ (fun k => by rw [newsreellaw41_RetainOldest.l0]) ?_
    rw [show rd_T29 l (P.length : Int) = x by rw [hP]; exact rd_mid P R x rfl]
    refine T.yes (by omega) (T.yes (by omega) ?_)
    have hgm : goesB ids x = true → mayB feed x = true := fun h => by
      rw [← hids] at h
      have h3 := (goes_iff hd hp n hx).mp (of_decide_eq_true h)
      exact (cand_mem.mp (hp.mem_iff.mp (List.mem_of_mem_take h3))).2
    refine goes_l1 feed _ _ _ keep q nf ne l4 l ids hil x _ ?_ ids.length 0 (by omega)
    -- the tests behind it
    refine T.succ (fun k => by rw [newsreellaw41_RetainOldest.j3]) ?_
    refine T.no (by cases hg : goesB ids x with
      | false => simp
      | true => simp [hgm hg]) ?_
    have skip : pubB feed x = false ∨ goesB ids x = true → T (fun k => newsreellaw41_RetainOldest.j4 k feed ids (c1 feed ids P : Int) (c2 feed ids P : Int) (P.length : Int) true keep q nf ne l4 l x.f0 x.f1 x.f2 x.f3 x.f4 x.f5 x.f6 x.f7 x.f8 x.f9 x.f10 x.f11 x.f12 x.f13 x.f14 x.f15 x.f16 x.f17 x.f18 x.f19) (fun r => r = true) := by
      intro h
      refine T.succ (fun k => by rw [newsreellaw41_RetainOldest.j4]) (T.yes rfl ?_)
      rw [w64 (n := (P.length : Int) + 1)]
      have z1 : (pubB feed x && !goesB ids x) = false := by rcases h with h | h <;> simp [h]
      have z2 : (mayB feed x && !goesB ids x) = false := by
        rcases h with h | h
        · cases hm : mayB feed x with
          | false => rfl
          | true => rw [may_pub hm] at h; cases h
        · simp [h]
      rw [z1, z2] at ih'
      simpa using ih'
    refine T.ite (fun c => skip (Or.inr c)) (fun c => ?_)
    have cg : goesB ids x = false := by simpa using c
    refine T.ite (fun d => ?_) (fun d => skip (Or.inl (by unfold pubB; simp [d])))
    by_cases d2 : x.f7 = 3
    · have hpub : pubB feed x = true := by unfold pubB; simp [d, d2]
      rw [show (x.f7 != 3) = false by simp [d2]]
      refine T.succ (fun k => by rw [newsreellaw41_RetainOldest.j4]) (T.no (by decide) ?_)
      rw [cg, hpub] at ih'
      refine T.bind (f := fun _ => newsreelref41_May.f x.f0 x.f1 x.f2 x.f3 x.f4 x.f5 x.f6 x.f7 x.f8 x.f9 x.f10 x.f11 x.f12 x.f13 x.f14 x.f15 x.f16 x.f17 x.f18 x.f19 feed) (T.now (may_now feed x) (G := fun b => b = mayB feed x) rfl) (fun b hb => ?_)
      rw [w64 (n := (c1 feed ids P : Int) + 1), w64 (n := (c2 feed ids P : Int) + 1), w64 (n := (P.length : Int) + 1)]
      refine T.ite (fun cb => ?_) (fun cb => ?_)
      · rw [cb] at hb
        rw [← hb] at ih'
        refine dates_l2 feed _ _ _ keep q nf ne l4 l hl ids hil x _ (fun id hid => ?_) ?_ ids.length 0 (by omega)
        · rw [← hids] at hid cg
          obtain ⟨y, hy, rfl⟩ := List.mem_map.mp hid
          have hyl := (cand_mem.mp (hp.mem_iff.mp (List.mem_of_mem_take hy))).1
          have hf : l.find? (fun z => z.f0 == y.f0) = some y := by
            cases hq : l.find? (fun z => z.f0 == y.f0) with
            | none => exact absurd (List.find?_eq_none.mp hq y hyl) (by simp)
            | some z =>
              have hz := List.find?_some hq
              rw [uniq hd (List.mem_of_find?_eq_some hq) hyl (by simpa using hz)]
          refine ⟨y, hf, ?_⟩
          have hxS : x ∈ S := hp.mem_iff.mpr (cand_mem.mpr ⟨hx, hb.symm⟩)
          have hnt : ¬ x ∈ S.take n := fun h => by
            rw [goesB, decide_eq_false_iff_not] at cg
            exact cg ((goes_iff hd hp n hx).mpr h)
          have h4 := hs
          rw [← List.take_append_drop n S, List.pairwise_append] at h4
          rw [← List.take_append_drop n S] at hxS
          rcases List.mem_append.mp hxS with h5 | h5
          · exact absurd h5 hnt
          · exact h4.2.2 y hy x h5
        · rw [w64 (n := (P.length : Int) + 1)]
          simpa using ih'
      · have hb' : mayB feed x = false := by rw [← hb]; simpa using cb
        rw [hb'] at ih'
        simpa using ih'
    · rw [show (x.f7 != 3) = true by simp [d2]]
      exact skip (Or.inl (by unfold pubB; simp [d2]))
theorem RetainOldest_pure : newsreellaw41_RetainOldest.Pure := by
  intro y0 y1 hg _
  obtain ⟨a, b, c, d, l4, l⟩ := y0
  have hkeep : a ≤ 9223372036854775807 := by
    have h1 : (decide (IntKind.min .i64 ≤ a) && decide (a ≤ IntKind.max .i64)) = true := hg.1
    rw [Bool.and_eq_true] at h1
    have h2 : a ≤ IntKind.max .i64 := of_decide_eq_true h1.2
    exact h2
  have h : T (fun k => newsreellaw41_RetainOldest.f k a b c d l4 l y1) (fun r => r = true) := by
    refine T.bind (light_law a b c d l4 l) (fun t ht => ?_)
    have no : ∀ fl : Bool, fl = true → T (fun k => newsreellaw41_RetainOldest.j0 k y1 fl a b c d l4 l) (fun r => r = true) := fun fl hf => by
      subst hf
      exact T.succ (fun k => by rw [newsreellaw41_RetainOldest.j0]) (T.yes rfl (T.bind awake_law (fun b hb => T.ret hb)))
    refine T.ite (fun c1 => ?_) (fun c1 => no _ rfl)
    have hl := ht c1
    refine T.bind (once_law a b c d l4 l hl) (fun o ho => ?_)
    by_cases co : o = true
    · rw [co]
      refine T.succ (fun k => by rw [newsreellaw41_RetainOldest.j0]) (T.no (by decide) ?_)
      obtain ⟨r0, ⟨S, h1, h2', h3'⟩, hK0⟩ := over_law y1 a b c d hkeep l4 l hl
      have h2 := cand_strict h1 h2' (ho co)
      have h3 : T (fun k => retain_Over.f k a b c d l4 l y1) (fun r => r = (S.take ((npub y1 l : Int) - mx 0 a).toNat).map (·.f0)) := ⟨r0, h3', hK0⟩
      refine T.bind h3 (fun r hr => ?_)
      subst hr
      exact old_l0 y1 a b c d l4 l hl (ho co) S h1 h2 _ rfl l [] rfl
    · exact no _ (by simpa using co)
  obtain ⟨r, hr, K, hK⟩ := h
  subst hr
  exact ⟨K, hK K (Nat.le_refl _)⟩
end Go.Proofs.Ytcpojadlnpnbaaa.XRet
