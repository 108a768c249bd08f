import Derived.Test.YtjemmmemenljbaaZFoldFactsParts18
import Derived.Test.YtjemmmemenljbaaZFoldFactsParts20
section
namespace Go.Proofs.Ytjemmmemenljbaa.PFold
open Go.RowKit Go.Proofs.YtjemmmemenljbaaW.PrintWords Go.Proofs.YtjemmmemenljbaaW.PrintLast Go.Proofs.YtjemmmemenljbaaW.PrintMore Go.Proofs.Ytjemmmemenljbaa.GrainM Go.Proofs.Ytjemmmemenljbaa.GrainL
set_option linter.unusedVariables false
set_option linter.unusedSimpArgs false
set_option maxHeartbeats 8000000
set_option maxRecDepth 100000
theorem nrm_ins_app {b : List Int} {a : Ag} (ha : okP a) : ∀ {l : List En}, Good l → ∀ v, Good v → nrm (insE b a l ++ v) = insE b a (nrm (l ++ v))
  | [], _, v, _ => rfl
  | y :: l, hl, v, hv => by
    have hy := (Good.cons.1 hl).1
    have hl2 := (Good.cons.1 hl).2
    have hlv : Good (l ++ v) := fun z hz => by
      rcases List.mem_append.1 hz with h | h
      · exact hl2 z h
      · exact hv z h
    have hn := nrm_good hlv
    rcases cmpB_tri y.f0 b with c | c | c
    · rw [ins_lt c]
      show insE y.f0 y.f1 (nrm (insE b a l ++ v)) = insE b a (insE y.f0 y.f1 (nrm (l ++ v)))
      rw [nrm_ins_app ha hl2 v hv, ins_comm hy ha hn]
    · rw [ins_eq c]
      show insE b (mergeA y.f1 a) (nrm (l ++ v)) = insE b a (insE y.f0 y.f1 (nrm (l ++ v)))
      rw [c, ins_twice ha hy hn]
    · rw [ins_gt c]
      rfl
theorem good_app {u v : List En} (hu : Good u) (hv : Good v) : Good (u ++ v) := fun z hz => by
  rcases List.mem_append.1 hz with h | h
  · exact hu z h
  · exact hv z h
theorem nrm_left : ∀ {u v : List En}, Good u → Good v → nrm (nrm u ++ v) = nrm (u ++ v)
  | [], v, _, _ => rfl
  | x :: u, v, hu, hv => by
    have h1 := (Good.cons.1 hu).1
    have h2 := (Good.cons.1 hu).2
    show nrm (insE x.f0 x.f1 (nrm u) ++ v) = insE x.f0 x.f1 (nrm (u ++ v))
    rw [nrm_ins_app h1 (nrm_good h2) v hv, nrm_left h2 hv]
theorem nrm_both {u v : List En} (hu : Good u) (hv : Good v) : nrm (nrm u ++ nrm v) = nrm (u ++ v) := by
  rw [nrm_left hu (nrm_good hv), nrm_perm List.perm_append_comm (good_app hu (nrm_good hv)), nrm_left hv hu, nrm_perm List.perm_append_comm (good_app hv hu)]
theorem ins_end {b : List Int} {a : Ag} : ∀ {l : List En}, (∀ y ∈ l, cmpB y.f0 b < 0) → insE b a l = l ++ [⟨b, a⟩]
  | [], _ => rfl
  | y :: l, h => by
    rw [ins_lt (h y (by simp)), ins_end (fun z hz => h z (List.mem_cons_of_mem _ hz))]
    rfl
theorem ins_last {b : List Int} {a : Ag} : ∀ {l : List En} (_ : SortedE l) (hn : 0 < l.length), l[l.length - 1].f0 = b → insE b a l = l.set (l.length - 1) ⟨b, mergeA l[l.length - 1].f1 a⟩
  | [], _, hn, _ => absurd hn (by simp)
  | [y], _, _, h => by
    have h' : y.f0 = b := h
    rw [ins_eq h']
    rfl
  | y :: z :: l, hs, _, h => by
    have hs2 := (List.pairwise_cons.1 hs)
    have hlt : cmpB y.f0 b < 0 := by
      rw [← h]
      exact hs2.1 _ (by
        have : (y :: z :: l)[(y :: z :: l).length - 1] = (z :: l)[(z :: l).length - 1] := by simp
        rw [this]
        exact List.getElem_mem _)
    rw [ins_lt hlt]
    have := ins_last (b := b) (a := a) hs2.2 (by simp) (by simpa using h)
    rw [this]
    simp
theorem putM_tells {x : En} {acc : List En} (hlen : acc.length < 1000) (hs : SortedE acc) (hg : Good acc) (hx : okP x.f1) (hk : ∀ y ∈ acc, y.f0.all isB = true) (hkx : x.f0.all isB = true) (hle : ∀ y ∈ acc, ¬ cmpB x.f0 y.f0 < 0) : putM x acc = some (nrm (acc ++ [x])) := by
  rw [nrm_snoc hx hg, nrm_self hs]
  unfold putM
  rw [if_pos hlen]
  by_cases h0 : 0 < acc.length
  · have hlt : acc.length - 1 < acc.length := by omega
    have hm := List.getElem_mem hlt
    rw [rd_ent hlt]
    by_cases he : acc[acc.length - 1].f0 = x.f0
    · have e : eqE acc[acc.length - 1] x = true := by unfold eqE; rw [he]; simp
      rw [if_pos ⟨h0, e⟩, if_pos ⟨(hg _ hm).1.2.1, hx.1.2.1⟩, ins_last hs h0 he, he]
    · have e : ¬ eqE acc[acc.length - 1] x = true := fun h => he (strs_eq (hk _ hm) hkx (by unfold eqE at h; exact eq_of_beq h))
      rw [if_neg (fun h => e h.2)]
      have hall : ∀ y ∈ acc, cmpB y.f0 x.f0 < 0 := fun y hy => by
        obtain ⟨i, hi, rfl⟩ := List.getElem_of_mem hy
        have hlast : cmpB acc[acc.length - 1].f0 x.f0 < 0 := by
          rcases cmpB_tri acc[acc.length - 1].f0 x.f0 with c | c | c
          · exact c
          · exact absurd c he
          · exact absurd c (hle _ hm)
        rcases Nat.lt_or_ge i (acc.length - 1) with h | h
        · exact cmpB_trans (sorted_lt hs h hlt) hlast
        · have : i = acc.length - 1 := by omega
          subst this
          exact hlast
      rw [ins_end hall]
  · have : acc = [] := List.length_eq_zero_iff.1 (by omega)
    subst this
    rw [if_neg (fun h => h0 h.1)]
    rfl
def restF (fs : List Fr) : List En := fs.flatMap (·.l)
structure FrOk (f : Fr) : Prop where
  pos : 0 < f.l.length
  srt : SortedE f.l
  good : Good f.l
  isb : ∀ y ∈ f.l, y.f0.all isB = true
def OrdF : List Fr → Prop
  | [a, b] => lessFr b a = false
  | _ => True
theorem lessF_asymm {x y : List Int} {p q : Int} (h : lessF x y p q = true) : lessF y x q p = false := by
  unfold lessF at h ⊢
  have ha := cmpB_anti x y
  rw [Bool.or_eq_true, Bool.and_eq_true, decide_eq_true_iff, decide_eq_true_iff, decide_eq_true_iff] at h
  rw [Bool.or_eq_false_iff, Bool.and_eq_false_iff, decide_eq_false_iff_not, decide_eq_false_iff_not, decide_eq_false_iff_not]
  omega
theorem sinkFs_ord (fs : List Fr) (h : fs.length ≤ 2) : OrdF (sinkFs fs) := by
  match fs, h with
  | [], _ => trivial
  | [a], _ => trivial
  | [a, b], _ =>
    show OrdF (if lessFr b a = true then [b, a] else [a, b])
    by_cases t : lessFr b a = true
    · rw [if_pos t]; exact lessF_asymm t
    · rw [if_neg t]; exact Bool.eq_false_iff.2 t
theorem sinkFs_rest (fs : List Fr) : List.Perm (restF (sinkFs fs)) (restF fs) := by
  unfold sinkFs
  split
  · split
    · simp only [restF, List.flatMap_cons, List.flatMap_nil, List.append_nil]
      exact List.perm_append_comm
    · exact List.Perm.refl _
  · exact List.Perm.refl _
theorem tail_ok {f : Fr} (h : FrOk f) (hl : 1 < f.l.length) : FrOk f.tail :=
  ⟨by simp [Fr.tail]; omega, List.Pairwise.sublist (List.drop_sublist _ _) h.srt, fun y hy => h.good y (List.mem_of_mem_drop hy), fun y hy => h.isb y (List.mem_of_mem_drop hy)⟩
theorem nextFs_ok {f : Fr} {q : List Fr} (h : ∀ z ∈ f :: q, FrOk z) : ∀ z ∈ nextFs f q, FrOk z := fun z hz => by
  have := sinkFs_mem hz
  split at this
  · rename_i hl
    rcases List.mem_cons.1 this with rfl | hm
    · exact tail_ok (h f (by simp)) hl
    · exact h z (List.mem_cons_of_mem _ hm)
  · exact h z (List.mem_cons_of_mem _ this)
theorem nextFs_rest {f : Fr} {q : List Fr} {x : En} {l : List En} (hf : f.l = x :: l) : List.Perm (restF (nextFs f q)) (l ++ restF q) := by
  unfold nextFs
  refine (sinkFs_rest _).trans ?_
  by_cases hl : 1 < f.l.length
  · rw [if_pos hl]
    simp [restF, Fr.tail, hf]
  · rw [if_neg hl]
    have : l = [] := by
      rw [hf] at hl
      cases l with
      | nil => rfl
      | cons a b => simp at hl
    subst this
    simp
theorem mrgGo_tells (n : Nat) : ∀ (fs : List Fr) (acc : List En), (restF fs).length = n → fs.length ≤ 2 → (∀ f ∈ fs, FrOk f) → OrdF fs → SortedE acc → Good acc → (∀ y ∈ acc, y.f0.all isB = true) → (∀ y ∈ acc, ∀ x ∈ restF fs, ¬ cmpB x.f0 y.f0 < 0) → acc.length + n < 1000 → Ev (fun k => mrgGo k fs acc) (nrm (acc ++ restF fs)) := by
  induction n with
  | zero =>
    intro fs acc hn _ hok _ hs _ _ _ _
    cases fs with
    | nil =>
      rw [show acc ++ restF [] = acc from by simp [restF], nrm_self hs]
      exact Ev.step (f := fun _ => some acc) (fun k => rfl) (Ev.now _)
    | cons f q =>
      have := (hok f (by simp)).pos
      simp [restF] at hn
      rw [hn.1] at this
      simp at this
  | succ n ih =>
    intro fs acc hn hl hok ho hs hg hk hle hlen
    cases fs with
    | nil => simp [restF] at hn
    | cons f q =>
      have F := hok f (by simp)
      obtain ⟨x, l, hf⟩ : ∃ x l, f.l = x :: l := by
        cases h : f.l with
        | nil => have := F.pos; rw [h] at this; simp at this
        | cons x l => exact ⟨x, l, rfl⟩
      have hxm : x ∈ f.l := by rw [hf]; simp
      have hx := F.good x hxm
      have hrest : restF (f :: q) = x :: (l ++ restF q) := by simp [restF, hf]
      have hput := putM_tells (x := x) (acc := acc) (by omega) hs hg hx hk (F.isb x hxm) (fun y hy => hle y hy x (by rw [hrest]; simp))
      have hp := nextFs_rest (q := q) hf
      have hga : Good (acc ++ [x]) := good_app hg (fun y hy => by obtain rfl := List.mem_singleton.1 hy; exact hx)
      have hlast : ∀ z ∈ l ++ restF q, ¬ cmpB z.f0 x.f0 < 0 := fun z hz => by
        rcases List.mem_append.1 hz with h | h
        · have := F.srt
          rw [hf] at this
          exact cmpB_asymm ((List.pairwise_cons.1 this).1 z h)
        · match q, hl, ho, h, hok with
          | [b], _, ho, h, hok =>
            have B := hok b (by simp)
            have hz2 : z ∈ b.l := by simpa [restF] using h
            have hlb : ¬ cmpB (b.l[0]'B.pos).f0 x.f0 < 0 := fun c => by
              have h1 : lessFr b f = false := ho
              unfold lessFr lessF at h1
              rw [headD_eq B.pos, headD_eq F.pos, Bool.or_eq_false_iff, decide_eq_false_iff_not] at h1
              have h2 : (f.l[0]'F.pos) = x := by simp [hf]
              rw [h2] at h1
              exact h1.1 c
            obtain ⟨i, hi, rfl⟩ := List.getElem_of_mem hz2
            intro c
            rcases Nat.eq_zero_or_pos i with rfl | hpos
            · exact hlb c
            · exact hlb (cmpB_trans (sorted_lt B.srt hpos hi) c)
      have ih' := ih (nextFs f q) (nrm (acc ++ [x])) (by rw [hp.length_eq]; rw [hrest] at hn; simpa using hn) (nextFs_len f q (by simp at hl; omega)) (nextFs_ok hok) (sinkFs_ord _ (by split <;> simp at hl ⊢ <;> omega)) (nrm_sorted _) (nrm_good hga)
        (fun y hy => by
          obtain ⟨z, hz, e⟩ := nrm_mem hy
          rw [e]
          rcases List.mem_append.1 hz with h | h
          · exact hk z h
          · obtain rfl := List.mem_singleton.1 h; exact F.isb _ hxm)
        (fun y hy z hz => by
          have hz2 := hp.mem_iff.1 hz
          obtain ⟨u, hu, e⟩ := nrm_mem hy
          rw [e]
          rcases List.mem_append.1 hu with h | h
          · exact hle u h z (by rw [hrest]; exact List.mem_cons_of_mem _ hz2)
          · obtain rfl := List.mem_singleton.1 h; exact hlast z hz2)
        (by have := nrm_len (acc ++ [x]); simp at this; omega)
      have hgr : Good (l ++ restF q) := fun z hz => by
        rcases List.mem_append.1 hz with h | h
        · exact F.good z (by rw [hf]; exact List.mem_cons_of_mem _ h)
        · obtain ⟨b, hb, hzb⟩ := List.mem_flatMap.1 h
          exact (hok b (List.mem_cons_of_mem _ hb)).good z hzb
      have hgn : Good (restF (nextFs f q)) := fun z hz => hgr z (hp.mem_iff.1 hz)
      have e : nrm (nrm (acc ++ [x]) ++ restF (nextFs f q)) = nrm (acc ++ restF (f :: q)) := by
        rw [nrm_left hga hgn, nrm_perm (hp.append_left (acc ++ [x])) (good_app hga hgn), hrest, List.append_assoc]
        rfl
      rw [← e]
      refine Ev.step (f := fun k => mrgGo k (nextFs f q) (nrm (acc ++ [x]))) (fun k => ?_) ih'
      show (match f.l.head? with | none => none | some x => (putM x acc).bind fun a => mrgGo k (nextFs f q) a) = _
      rw [hf]
      show (putM x acc).bind _ = _
      rw [hput, Option.bind_some]
def oneA (v : Int) : Ag := ⟨1, false, ⟨v / 9223372036854775808, IntKind.u64.wrap v⟩, v, v⟩
theorem one_tells (v : Int) : agg_One.f v = some (1, false, v / 9223372036854775808, IntKind.u64.wrap v, v, v) := rfl
theorem okQ_one (v : Int) : okQ (oneA v) := ⟨⟨⟨by unfold oneA inU mW; simp, by unfold oneA inU; simp only [u64_wrap]; exact mod_mW _, fun h => by cases h⟩, by unfold oneA; simp⟩, Int.le_refl _⟩
def rightF (x : Fa) : Prop := dimsB x.f0 = true ∧ isT x.f1
def entF (gs : List Gr) (x : Fa) : En := ⟨wrB x.f0 (x.f1 - x.f1 % sz gs 0) ((0 : Nat) : Int), oneA x.f2⟩
theorem entF_fit {gs : List Gr} {keep : Int} (R : Rgt gs keep) {x : Fa} (h : rightF x) : FitK gs (entF gs x).f0 x.f0 (x.f1 - x.f1 % sz gs 0) 0 := fit_wr R h.1 h.2 R.one
theorem entF_ok {gs : List Gr} {keep : Int} (R : Rgt gs keep) {x : Fa} (h : rightF x) : fitX gs (entF gs x) ∧ WfE (entF gs x) := by
  have q := okQ_one x.f2
  refine ⟨⟨⟨_, _, _, entF_fit R h⟩, q.1.2, q.2, q.1.1.2.2⟩, ⟨wrB_isB (by omega) (by omega), ?_, q.1.1.1, q.1.1.2.1⟩⟩
  have := wrB_len (f := x.f1 - x.f1 % sz gs 0) (g := ((0 : Nat) : Int)) h.1
  show (wrB _ _ _).length < _
  omega
theorem good_entF (gs : List Gr) (l : List Fa) : Good (l.map (entF gs)) := fun y hy => by
  obtain ⟨x, _, rfl⟩ := List.mem_map.1 hy
  exact (okQ_one x.f2).1
theorem factGo_tells {gs : List Gr} {keep : Int} (R : Rgt gs keep) : ∀ (l : List Fa) (p : List En), Good p → (∀ y ∈ p, y.f0.all isB = true) → p.length + l.length < 1000 →
    ∃ o, Ev (fun k => factGo k gs l (nrm p)) o ∧ ((o = none ∧ ¬ ∀ x ∈ l, rightF x) ∨ ((∀ x ∈ l, rightF x) ∧ o = some (nrm (p ++ l.map (entF gs)))))
  | [], p, _, _, _ => ⟨some (nrm p), by simp only [factGo]; exact Ev.now _, .inr ⟨fun x hx => (by cases hx), (by simp)⟩⟩
  | x :: r, p, hp, hb, hl => by
    simp only [List.length_cons] at hl
    have h1 := R.one
    have hz := R.size 0 h1
    by_cases hr : rightF x
    · have hof := (entF_ok R hr).2.key
      have hnl := nrm_len p
      have q := (okQ_one x.f2).1
      have hput : putE (entF gs x).f0 (oneA x.f2) (nrm p) = some (insE (entF gs x).f0 (oneA x.f2) (nrm p)) := putE_eq (nrm_sorted p) (by omega) (fun y hy => by obtain ⟨z, hz, e⟩ := nrm_mem hy; rw [e]; exact hb z hz) hof (fun y hy => (nrm_good hp y hy).1.2.1) q.1.2.1
      have hsn : insE (entF gs x).f0 (oneA x.f2) (nrm p) = nrm (p ++ [entF gs x]) := (nrm_snoc (x := entF gs x) q hp).symm
      obtain ⟨o, h, ho⟩ := factGo_tells R r (p ++ [entF gs x]) (fun y hy => by
        rcases List.mem_append.1 hy with hy | hy
        · exact hp y hy
        · obtain rfl := List.mem_singleton.1 hy; exact q) (fun y hy => by
        rcases List.mem_append.1 hy with hy | hy
        · exact hb y hy
        · obtain rfl := List.mem_singleton.1 hy; exact hof) (by simp; omega)
      refine ⟨o, ?_, ?_⟩
      · have f0 := fl_nonneg hr.2.1 hz.1
        have f1 := fl_le (t := x.f1) hz.1
        have ft := hr.2.2
        have ek : key_Right.f x.f0 x.f1 0 = some true := by rw [key_right_tells, decide_eq_true ⟨hr.1, hr.2, by omega, by omega⟩]
        have ef : grain_Floor.f x.f1 (rd_T67 gs 0).f0 = some (x.f1 - x.f1 % sz gs 0, 0) := floor_tells hr.2 hz.1 hz.2
        refine Ev.congr (g := fun k => factGo k gs (x :: r) (nrm p)) (f := fun k => (key_Write.f k x.f0 (x.f1 - x.f1 % sz gs 0) 0).bind fun kb => (agg_One.f x.f2).bind fun o => (putE kb.1 (agOf o) (nrm p)).bind fun a => factGo k gs r a) (fun k => ?_) ?_
        · simp only [factGo, ek, ef, Option.bind_some, if_true]
          rw [if_pos (by omega)]
        · refine Ev.bind (write_tells hr.1 ⟨f0, by omega⟩ ⟨by omega, by omega⟩) (Ev.congr (fun k => ?_) h)
          rw [one_tells, Option.bind_some]
          show (putE (entF gs x).f0 (oneA x.f2) (nrm p)).bind _ = _
          rw [hput, Option.bind_some, hsn]
      · rcases ho with ⟨ho, hn⟩ | ⟨ha, ho⟩
        · exact .inl ⟨ho, fun h => hn (fun y hy => h y (List.mem_cons_of_mem _ hy))⟩
        · refine .inr ⟨fun y hy => ?_, by rw [ho]; simp⟩
          rcases List.mem_cons.1 hy with rfl | hy
          · exact hr
          · exact ha y hy
    · refine ⟨none, Ev.congr (fun k => ?_) (Ev.now _), .inl ⟨rfl, fun h => hr (h x List.mem_cons_self)⟩⟩
      simp only [factGo]
      rw [key_right_tells, decide_eq_false (fun h => hr ⟨h.1, h.2.1⟩)]
      simp
noncomputable def factsM (gs : List Gr) (keep wm : Int) (l : List Fa) : List En := nrm (mapE (AtK gs keep wm) (l.map (entF gs)))
theorem facts_tells (gs : List Gr) (keep wm : Int) {l : List Fa} (hl : l.length < 1000) :
    ∃ a e, Ev (fun k => fold_Facts.f k gs keep wm l) (a, e) ∧ (e ≠ 0 ∧ a = [] ∨ e = 0 ∧ Rgt gs keep ∧ isT wm ∧ (∀ x ∈ l, rightF x) ∧ a = factsM gs keep wm l) := by
  obtain ⟨e, h, he⟩ := check_tells gs keep wm (l := []) (by simp) (fun x hx => by cases hx) (fun x hx => by cases hx)
  unfold fold_Facts.f
  by_cases e0 : e = 0
  · subst e0
    obtain ⟨R, ht, _⟩ := he.1 rfl
    obtain ⟨o, hf, ho⟩ := factGo_tells R l [] Good.nil (fun y hy => by cases hy) (by simpa using hl)
    rcases ho with ⟨rfl, _⟩ | ⟨ha, rfl⟩
    · exact ⟨[], 110, Ev.bind h (by simp only [if_true]; exact Ev.bind hf (Ev.now _)), .inl ⟨by decide, rfl⟩⟩
    · have hok : ∀ y ∈ nrm (l.map (entF gs)), fitX gs y ∧ WfE y := fun y hy => by
        obtain ⟨z, hz, e⟩ := nrm_mem hy
        obtain ⟨x, hx, rfl⟩ := List.mem_map.1 hz
        have hh := entF_ok R (ha x hx)
        have hQ : okQ y.f1 := nrm_all (P := okQ) (fun _ _ => okQ_merge) (fun q hq => by obtain ⟨x, _, rfl⟩ := List.mem_map.1 hq; exact okQ_one x.f2) y hy
        exact ⟨⟨by rw [e]; exact hh.1.1, hQ.1.2, hQ.2, hQ.1.1.2.2⟩, ⟨by rw [e]; exact hh.2.key, by rw [e]; exact hh.2.short, hQ.1.1.1, hQ.1.1.2.1⟩⟩
      have hlen : (nrm (l.map (entF gs))).length < 1000 := by have := nrm_len (l.map (entF gs)); rw [List.length_map] at this; omega
      have := fold_tells (gs := gs) (keep := keep) (wm := wm) hlen (fun x hx => (hok x hx).2) ⟨R, ht, nrm_sorted _, fun x hx => (hok x hx).1⟩
      refine ⟨factsM gs keep wm l, 0, Ev.bind h ?_, .inr ⟨rfl, R, ht, ha, rfl⟩⟩
      simp only [if_true]
      refine Ev.bind hf ?_
      simp only [List.nil_append]
      unfold foldM at this
      rw [mapE_nrm _ (good_entF gs l)] at this
      exact this
  · exact ⟨[], e, Ev.bind h (by simp only [if_neg e0]; exact Ev.now _), .inl ⟨e0, rfl⟩⟩
theorem many_inner {l : List Fa} (hl : l.length < 1000000) {i : Nat} (hi : i < l.length) (hdl : l[i].f0.length < 1000000) {t : Bool} (h : Ev (fun k => rickyardlaw15_Many.l0 k l ((i + 1 : Nat) : Int)) t) (d : Nat) : ∀ j : Nat, l[i].f0.length - j = d → ∃ t, Ev (fun k => rickyardlaw15_Many.l1 k l (i : Int) (j : Int)) t := by
  induction d with
  | zero =>
    intro j hd
    refine ⟨t, Ev.step (fun k => ?_) h⟩
    simp only [rickyardlaw15_Many.l1, rd_fact hi, kw64o i (by omega)]
    rw [if_pos (by omega), if_pos (by omega), if_neg (by omega)]
  | succ d ih =>
    intro j hd
    by_cases hg : ((rdOf ByteArray.empty l[i].f0 (j : Int)).size : Int) > 100
    · refine ⟨true, Ev.step (fun k => ?_) (Ev.now _)⟩
      simp only [rickyardlaw15_Many.l1, rd_fact hi]
      rw [if_pos (by omega), if_pos (by omega), if_pos (by omega), if_pos (by omega), if_pos hg]
    · obtain ⟨t, h⟩ := ih (j + 1) (by omega)
      refine ⟨t, Ev.step (fun k => ?_) h⟩
      simp only [rickyardlaw15_Many.l1, rd_fact hi, kw64o j (by omega)]
      rw [if_pos (by omega), if_pos (by omega), if_pos (by omega), if_pos (by omega), if_neg hg]
theorem many_loop {l : List Fa} (hl : l.length < 1000000) (d : Nat) : ∀ i : Nat, l.length - i = d → ∃ t, Ev (fun k => rickyardlaw15_Many.l0 k l (i : Int)) t := by
  induction d with
  | zero =>
    intro i hd
    refine ⟨false, Ev.step (fun k => ?_) (Ev.now _)⟩
    simp only [rickyardlaw15_Many.l0]
    rw [if_neg (by omega)]
  | succ d ih =>
    intro i hd
    have hi : i < l.length := by omega
    by_cases hg : (l[i].f0.length : Int) > 20
    · refine ⟨true, Ev.step (fun k => ?_) (Ev.now _)⟩
      simp only [rickyardlaw15_Many.l0, rd_fact hi]
      rw [if_pos (by omega), if_pos (by omega), if_pos hg]
    · obtain ⟨t, h⟩ := ih (i + 1) (by omega)
      obtain ⟨t', h'⟩ := many_inner hl hi (by omega) h _ 0 rfl
      refine ⟨t', Ev.step (fun k => ?_) h'⟩
      simp only [rickyardlaw15_Many.l0, rd_fact hi]
      rw [if_pos (by omega), if_pos (by omega), if_neg hg]
      rfl
theorem many_ex (l : List Fa) : ∃ t, Ev (fun k => rickyardlaw15_Many.f k l) t ∧ (t = false → l.length ≤ 60) := by
  unfold rickyardlaw15_Many.f
  by_cases h : (l.length : Int) > 60
  · exact ⟨true, Ev.congr (fun k => by rw [if_pos h]) (Ev.now _), fun h => by cases h⟩
  · obtain ⟨t, ht⟩ := many_loop (l := l) (by omega) _ 0 rfl
    exact ⟨t, Ev.congr (fun k => by rw [if_neg h]; rfl) ht, fun _ => by omega⟩
theorem rest_two (a b : List En) : List.Perm (restF (sinkFs (frontsOf (twoRows a b)))) (a ++ b) := by
  refine (sinkFs_rest _).trans ?_
  cases a with
  | nil => cases b with
    | nil => simp [twoRows, frontsOf, restF]
    | cons y s => simp [twoRows, frontsOf, restF]
  | cons x r => cases b with
    | nil => simp [twoRows, frontsOf, restF]
    | cons y s => simp [twoRows, frontsOf, restF]
theorem fronts_pos {a b : List En} {f : Fr} (h : f ∈ sinkFs (frontsOf (twoRows a b))) : 0 < f.l.length ∧ (f.l = a ∨ f.l = b) := by
  have := sinkFs_mem h
  unfold frontsOf at this
  rw [List.mem_filter] at this
  refine ⟨by simpa using this.2, ?_⟩
  rcases List.mem_cons.1 this.1 with rfl | h2
  · exact .inl rfl
  · obtain rfl := List.mem_singleton.1 h2; exact .inr rfl
theorem fronts_len (a b : List En) : (sinkFs (frontsOf (twoRows a b))).length ≤ 2 := by
  rw [sinkFs_len]
  exact frontsOf_len _
theorem rowW_of {l : List En} (hl : l.length < 1000) (hw : ∀ x ∈ l, WfE x) : RowW l := ⟨by omega, fun y hy => ⟨(hw y hy).key, by have := (hw y hy).short; omega⟩⟩
theorem rowE_ok {gs : List Gr} {l : List En} (hs : SortedE l) (hf : ∀ x ∈ l, fitX gs x) : rowE l = 0 := by
  have hr : RisesE l := fun j hj h0 => sorted_lt hs (by omega) hj
  have hq : ∀ l : List En, (∀ x ∈ l, fitX gs x) → anyQ wrongQ l = some false := fun l => by
    classical
    induction l with
    | nil => intro _; rfl
    | cons x r ih =>
      intro h
      have hx := h x (by simp)
      have e : wrongQ x = some false := by
        unfold wrongQ
        rw [right_ag hx.2.1, decide_eq_true hx.2.2]
        rfl
      unfold anyQ
      rw [e]
      simpa using ih (fun y hy => h y (List.mem_cons_of_mem _ hy))
  unfold rowE
  rw [if_pos hr, hq l hf, if_neg (by simp)]
theorem mAll_tells {gs : List Gr} {a b : List En} (ha : a.length < 400) (hb : b.length < 400) (wa : ∀ x ∈ a, WfE x) (wb : ∀ x ∈ b, WfE x) (sa : SortedE a) (sb : SortedE b) (fa : ∀ x ∈ a, fitX gs x) (fb : ∀ x ∈ b, fitX gs x) : Ev (fun k => mAll k a b) (nrm (a ++ b), 0) := by
  have hw : RowW a ∧ RowW b := ⟨rowW_of (by omega) wa, rowW_of (by omega) wb⟩
  have ga : Good a := fun x hx => okP_of (wa x hx) (fa x hx)
  have gb : Good b := fun x hx => okP_of (wb x hx) (fb x hx)
  have hz : firstE (twoRows a b) = 0 := by
    show (if rowE a = 0 then (if rowE b = 0 then (0 : Int) else rowE b) else rowE a) = 0
    rw [if_pos (rowE_ok sa fa), if_pos (rowE_ok sb fb)]
  have h := mrgGo_tells _ (sinkFs (frontsOf (twoRows a b))) [] rfl (fronts_len a b) (fun f hf => by
    obtain ⟨h0, h | h⟩ := fronts_pos hf
    · exact ⟨h0, by rw [h]; exact sa, by rw [h]; exact ga, by rw [h]; exact fun y hy => (wa y hy).key⟩
    · exact ⟨h0, by rw [h]; exact sb, by rw [h]; exact gb, by rw [h]; exact fun y hy => (wb y hy).key⟩) (sinkFs_ord _ (frontsOf_len _)) List.Pairwise.nil Good.nil (fun y hy => by cases hy) (fun y hy => by cases hy) (by rw [(rest_two a b).length_eq]; simp; omega)
  rw [List.nil_append, nrm_perm (rest_two a b) (fun z hz => good_app ga gb z ((rest_two a b).mem_iff.1 hz))] at h
  refine Ev.congr (f := fun k => (mrgGo k (sinkFs (frontsOf (twoRows a b))) []).bind fun r => some (r, 0)) (fun k => ?_) (Ev.bind h (Ev.now _))
  unfold mAll
  rw [if_pos hw, if_pos hz]
theorem alive_tells : Ev (fun k => rickyardlaw15_alive.f k) true := ⟨64, fun k hk => by show rickyardlaw15_alive.f k = _; unfold rickyardlaw15_alive.f; rw [if_pos hk]⟩
theorem rotF_eq (l : List Fa) (t : Nat) : rotF l t = l.drop (t % l.length) ++ l.take (t % l.length) := by
  have hle : t % l.length ≤ l.length ∨ l.length = 0 := by
    rcases Nat.eq_zero_or_pos l.length with h | h
    · exact .inr h
    · exact .inl (Nat.le_of_lt (Nat.mod_lt t h))
  refine List.ext_getElem (by rw [rotF_len, List.length_append, List.length_drop, List.length_take]; omega) (fun j h1 h2 => ?_)
  rw [rotF_len] at h1
  have hm := Nat.mod_lt t (show 0 < l.length by omega)
  have hj : (j + t) % l.length < l.length := Nat.mod_lt _ (by omega)
  have e0 : (rotF l t)[j]'(by rw [rotF_len]; exact h1) = rd_T46 l (((j + t) % l.length : Nat) : Int) := by simp [rotF]
  rw [e0, rd_fact hj, List.getElem_append]
  by_cases hc : j < (l.drop (t % l.length)).length
  · rw [dif_pos hc, List.getElem_drop]
    rw [List.length_drop] at hc
    have : (j + t) % l.length = t % l.length + j := by rw [Nat.add_mod, Nat.mod_eq_of_lt h1, Nat.mod_eq_of_lt (by omega)]; omega
    simp only [this]
  · rw [dif_neg hc, List.getElem_take]
    rw [List.length_drop] at hc
    have : (j + t) % l.length = j - (l.drop (t % l.length)).length := by
      rw [List.length_drop, Nat.add_mod, Nat.mod_eq_of_lt h1, Nat.mod_eq_sub_mod (by omega), Nat.mod_eq_of_lt (by omega)]; omega
    simp only [this]
theorem rotF_perm (l : List Fa) (t : Nat) : List.Perm (rotF l t) l := by
  rw [rotF_eq]
  refine List.perm_append_comm.trans ?_
  rw [List.take_append_drop]
theorem entN_ok {gs : List Gr} {keep : Int} (R : Rgt gs keep) {l : List Fa} (hr : ∀ x ∈ l, rightF x) : ∀ y ∈ nrm (l.map (entF gs)), fitX gs y ∧ WfE y := fun y hy => by
  obtain ⟨z, hz, e⟩ := nrm_mem hy
  obtain ⟨x, hx, rfl⟩ := List.mem_map.1 hz
  have hh := entF_ok R (hr x hx)
  have hQ : okQ y.f1 := nrm_all (P := okQ) (fun _ _ => okQ_merge) (fun q hq => by obtain ⟨x, _, rfl⟩ := List.mem_map.1 hq; exact okQ_one x.f2) y hy
  exact ⟨⟨by rw [e]; exact hh.1.1, hQ.1.2, hQ.2, hQ.1.1.2.2⟩, ⟨by rw [e]; exact hh.2.key, by rw [e]; exact hh.2.short, hQ.1.1.1, hQ.1.1.2.1⟩⟩
theorem entN_len (gs : List Gr) (l : List Fa) : (nrm (l.map (entF gs))).length ≤ l.length := by
  have := nrm_len (l.map (entF gs)); rw [List.length_map] at this; exact this
theorem facts_right {gs : List Gr} {keep wm : Int} (R : Rgt gs keep) (ht : isT wm) {l : List Fa} (hl : l.length < 1000) (hr : ∀ x ∈ l, rightF x) : Ev (fun k => fold_Facts.f k gs keep wm l) (factsM gs keep wm l, 0) := by
  obtain ⟨e, h, he⟩ := check_tells gs keep wm (l := []) (by simp) (fun x hx => by cases hx) (fun x hx => by cases hx)
  obtain rfl : e = 0 := he.2 ⟨R, ht, List.Pairwise.nil, fun x hx => by cases hx⟩
  unfold fold_Facts.f
  obtain ⟨o, hf, ho⟩ := factGo_tells R l [] Good.nil (fun y hy => by cases hy) (by simpa using hl)
  rcases ho with ⟨_, hn⟩ | ⟨_, rfl⟩
  · exact (hn hr).elim
  · have hlen := entN_len gs l
    have := fold_tells (gs := gs) (keep := keep) (wm := wm) (by omega) (fun x hx => (entN_ok R hr x hx).2) ⟨R, ht, nrm_sorted _, fun x hx => (entN_ok R hr x hx).1⟩
    refine Ev.bind h ?_
    simp only [if_true]
    refine Ev.bind hf ?_
    simp only [List.nil_append]
    unfold foldM at this
    rw [mapE_nrm _ (good_entF gs l)] at this
    exact this
theorem factsM_ok {gs : List Gr} {keep wm : Int} (R : Rgt gs keep) (ht : isT wm) {l : List Fa} (hr : ∀ x ∈ l, rightF x) :
    SortedE (factsM gs keep wm l) ∧ (∀ x ∈ factsM gs keep wm l, fitX gs x) ∧ (∀ x ∈ factsM gs keep wm l, WfE x) ∧ (factsM gs keep wm l).length ≤ l.length := by
  have hlen := entN_len gs l
  have h := foldM_ok (gs := gs) (keep := keep) (wm := wm) (fun x hx => (entN_ok R hr x hx).2) ⟨R, ht, nrm_sorted _, fun x hx => (entN_ok R hr x hx).1⟩
  unfold foldM at h
  rw [mapE_nrm _ (good_entF gs l)] at h
  exact ⟨h.1, h.2.1, h.2.2.1, by have := h.2.2.2.1; show (nrm _).length ≤ _; omega⟩
theorem factsM_perm (gs : List Gr) (keep wm : Int) {l m : List Fa} (hp : List.Perm l m) : factsM gs keep wm l = factsM gs keep wm m := by
  show nrm _ = nrm _
  rw [← mapE_nrm _ (good_entF gs l), ← mapE_nrm _ (good_entF gs m), nrm_perm (hp.map _) (good_entF gs l)]
theorem factsM_both (gs : List Gr) (keep wm : Int) (l : List Fa) (c : Nat) : nrm (factsM gs keep wm (l.take c) ++ factsM gs keep wm (l.drop c)) = factsM gs keep wm l := by
  show nrm (nrm _ ++ nrm _) = nrm _
  rw [nrm_both (mapE_good (good_entF gs _)) (mapE_good (good_entF gs _)), ← mapE_append, ← List.map_append, List.take_append_drop]
theorem factsParts_tells (gs : List Gr) (keep w : Int) (l : List Fa) (cut turn : Int) : Ev (fun k => rickyardlaw15_FoldFactsParts.f k gs keep w l cut turn) true := by
  unfold rickyardlaw15_FoldFactsParts.f
  obtain ⟨t, ht, hf⟩ := many_ex l
  refine Ev.bind ht ?_
  cases t with
  | true => simp only [if_true]; exact alive_tells
  | false =>
    have h60 := hf rfl
    simp only [Bool.false_eq_true, if_false]
    by_cases o1 : cut < 0
    · simp only [if_pos o1]; exact alive_tells
    simp only [if_neg o1]
    by_cases o2 : cut > (l.length : Int)
    · simp only [if_pos o2]; exact alive_tells
    simp only [if_neg o2, if_pos (show l.length ≤ 1000 by omega)]
    obtain ⟨a, e, h, ho⟩ := facts_tells gs keep w (l := l) (by omega)
    refine Ev.bind h ?_
    rcases ho with ⟨he, rfl⟩ | ⟨rfl, R, hw, hr, rfl⟩
    · simp only [if_neg he]; exact alive_tells
    simp only [if_true]
    have pm := rotF_perm l (turn % 1024).toNat
    have h2 := facts_right R hw (l := rotF l (turn % 1024).toNat) (by rw [rotF_len]; omega) (fun x hx => hr x (pm.mem_iff.1 hx))
    have ra : ∀ x ∈ l.take cut.toNat, rightF x := fun x hx => hr x (List.mem_of_mem_take hx)
    have rb : ∀ x ∈ l.drop cut.toNat, rightF x := fun x hx => hr x (List.mem_of_mem_drop hx)
    have la : (l.take cut.toNat).length ≤ 60 := by rw [List.length_take]; omega
    have lb : (l.drop cut.toNat).length ≤ 60 := by rw [List.length_drop]; omega
    obtain ⟨a1, a2, a3, a4⟩ := factsM_ok (keep := keep) (wm := w) R hw ra
    obtain ⟨b1, b2, b3, b4⟩ := factsM_ok (keep := keep) (wm := w) R hw rb
    have hab := mAll_tells (gs := gs) (by omega) (by omega) a3 b3 a1 b1 a2 b2
    rw [factsM_both] at hab
    rw [factsM_perm gs keep w pm] at h2
    obtain ⟨_, _, _, q4⟩ := factsM_ok (keep := keep) (wm := w) R hw hr
    have hs := same_tells (factsM gs keep w l) (by omega)
    refine Ev.bind h2 (Ev.bind (facts_right R hw (by omega) ra) (Ev.bind (facts_right R hw (by omega) rb) (Ev.bind hab (Ev.bind alive_tells (Ev.bind hs (Ev.bind hs (Ev.congr (fun k => ?_) (Ev.now true))))))))
    simp
end Go.Proofs.Ytjemmmemenljbaa.PFold
end
section
namespace Go.Proofs.Ytjemmmemenljbaa.Pure
open Go.RowKit Go.Proofs.YtjemmmemenljbaaW.PrintWords Go.Proofs.YtjemmmemenljbaaW.PrintLast Go.Proofs.YtjemmmemenljbaaW.PrintMore Go.Proofs.Ytjemmmemenljbaa.PFold Go.Proofs.Ytjemmmemenljbaa.GrainM Go.Proofs.Ytjemmmemenljbaa.GrainL
set_option linter.unusedVariables false
set_option linter.unusedSimpArgs false
set_option maxHeartbeats 8000000
set_option maxRecDepth 100000
theorem FoldFactsParts : rickyardlaw15_FoldFactsParts.Pure := by
  intro gs keep w l cut turn _ _ _ _ _ _
  refine Ev.rounds ?_
  exact factsParts_tells gs keep w l cut turn
end Go.Proofs.Ytjemmmemenljbaa.Pure
end
