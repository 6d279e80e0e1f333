/- The reader of bytes: nodes, and rows of nodes. -/
import Derived.Test.YtfhfkbdaglegpaaGreatDoorGRead
import Derived.Test.YtfhfkbdaglegpaaGreatDoorGBase

set_option linter.unusedVariables false
set_option linter.unusedSimpArgs false

namespace Go.Proofs.YtfhfkbdaglegpaaGreatDoor
open Go.RowKit

/-! ### what bytes tell of nodes -/
def NodeAt (d : Nat) (l : List UInt8) : Prop := ∃ (k : Nat) (t : ByteArray) (n : Int) (ks : Fo) (l' : List UInt8), NodeFit k t n ks ∧ ks.high + 1 + d ≤ 40 ∧ l = nodeB k t n ks ++ l'
def NodesAt (d : Nat) (l : List UInt8) : Prop := ∃ (f : Fo) (l' : List UInt8), NodesFit f ∧ f.high + d ≤ 40 ∧ l = nodesB f ++ l'
theorem nodes_short {d : Nat} {l : List UInt8} (h : l.length < 8) : ¬ NodesAt d l := by
  rintro ⟨f, l', _, _, rfl⟩
  unfold nodesB at h
  rw [List.length_append, List.length_append, num8_len] at h
  omega
theorem nodes_guard {d : Nat} {n : Int} {l1 : List UInt8} (hn : is63 n) (h : ¬ (0 ≤ n ∧ n ≤ (l1.length : Int) / 8)) : ¬ NodesAt d (num8 n ++ l1) := by
  rintro ⟨f, l', hf, _, he⟩
  unfold nodesB at he
  rw [List.append_assoc] at he
  obtain ⟨e1, e2⟩ := num8_split hn (is63_nat hf.2) he
  have := foB_len f
  rw [e2, List.length_append] at h
  refine h ⟨by omega, ?_⟩
  omega
theorem nodes_next {d : Nat} {n : Int} {f : Fo} {l1 lq : List UInt8} (hn : is63 n) (hf : f.fit) (he : l1 = foB f ++ lq) (hlt : (f.len : Int) < n) (hno : ¬ NodeAt d lq) : ¬ NodesAt d (num8 n ++ l1) := by
  rintro ⟨g, l', hg, hh, h⟩
  unfold nodesB at h
  rw [List.append_assoc] at h
  obtain ⟨e1, e2⟩ := num8_split hn (is63_nat hg.2) h
  rw [he] at e2
  have hle : f.len < g.len := by omega
  obtain ⟨_, e4⟩ := foB_behind hf hg.1 (by omega) e2
  have hfit := (Fo.fit_take f.len hg.1).2
  have hhigh := congrArg Fo.high (Fo.take_drop f.len g)
  rw [Fo.high_app] at hhigh
  have hlen := Fo.len_drop g f.len
  match hd : g.drop f.len with
  | .nil => rw [hd] at hlen; simp [Fo.len] at hlen; omega
  | .cons k t m ks r =>
    rw [hd] at hfit e4 hhigh
    obtain ⟨a1, a2, a3, a4, a5, _⟩ := hfit
    rw [foB_cons, List.append_assoc] at e4
    simp only [Fo.high] at hhigh
    exact hno ⟨k, t, m, ks, _, ⟨a1, a2, a3, a5, a4⟩, by omega, e4⟩

/-! ### nodes that were made -/
theorem own_fo {B e n : Nat} {w : World} {v : Value} {vs : List Value} {f : Fo} (h : w.ownsRow 0 e 4 v n vs) (hB : ∀ g, v.ownBlock = some g → B ≤ g) (hf : FoCells (fun b => B ≤ b ∧ v.ownBlock ≠ some b) w vs f) (hn : n = f.len) :
    ∃ A c, v = .slice A f.len c ∧ FoIn (fun b => B ≤ b) w A f ∧ f.len ≤ c ∧ c ≤ 9223372036854775807 := by
  subst hn
  rcases h.2 with ⟨rfl, h0⟩ | ⟨g, cap, cur, rfl, hb, hgg, hn, hc, _⟩
  · have : f = .nil := by cases f with
      | nil => rfl
      | cons => simp [Fo.len] at h0
    subst this
    exact ⟨none, 0, rfl, trivial, Nat.le_refl _, by omega⟩
  · refine ⟨_, _, rfl, hf.at_ (fun b hS => hS.1) (hB g rfl) (fun j u hu => ?_), hn, by unfold maxLen at hc; omega⟩
    have := h.cells (g := g) rfl j u hu
    rwa [Addr.add_lit] at this
theorem cell_four_new (w : World) (a b c d : Value) (t : TypeId) : ∀ j u, [a, b, c, d][j]? = some u → (w.alloc (.cells #[a, b, c, d] t)).cell? ((⟨w.heap.size, 0, none⟩ : Addr).add j) = some u := by
  intro j u hu
  rw [Addr.add_lit, Nat.zero_add, World.cell?_alloc_new]
  simpa using hu
/-- what a call of node does -/
def NodePost (D : Nat → Prop) (rb d : Nat) (w : World) (l : List UInt8) (e : Ending) (w' : World) : Prop :=
  (∃ k t n ks l' KA c, l = nodeB k t n ks ++ l' ∧ NodeFit k t n ks ∧ ks.high + 1 + d ≤ 40 ∧ e = .returned (.agg #[.int .u8 k, .string t, .int .i64 n, .slice KA ks.len c]) ∧ FoIn (fun b => w.heap.size ≤ b) w' KA ks ∧ ks.len ≤ c ∧ c ≤ 9223372036854775807 ∧ Rdr D rb w' l' d ∧ Side rb w w' ∧ ∃ L, NodesO w' KA c ks L ∧ ∀ b ∈ L, w.heap.size ≤ b) ∨
  (¬ NodeAt d l ∧ e = oops ∧ Side rb w w')
def NodesPost (D : Nat → Prop) (rb d : Nat) (w : World) (l : List UInt8) (e : Ending) (w' : World) : Prop :=
  (∃ f l' A c, l = nodesB f ++ l' ∧ f.fit ∧ f.high + d ≤ 40 ∧ e = .returned (.slice A f.len c) ∧ FoIn (fun b => w.heap.size ≤ b) w' A f ∧ f.len ≤ c ∧ c ≤ 9223372036854775807 ∧ Rdr D rb w' l' d ∧ Side rb w w' ∧ ∃ L, NodesO w' A c f L ∧ ∀ b ∈ L, w.heap.size ≤ b) ∨
  (¬ NodesAt d l ∧ e = oops ∧ Side rb w w')

set_option maxHeartbeats 2000000 in
set_option maxRecDepth 1000000 in
theorem someNode_of {D : Nat → Prop} {rb d : Nat} {w : World} {l : List UInt8}
    (hnode : ∀ (D' : Nat → Prop) (w' : World) (l' : List UInt8), l'.length < l.length → Rdr D' rb w' l' d → Calls Tryz.prog 148 #[.pointer (some ⟨rb, 0, none⟩)] w' (NodePost D' rb d w' l'))
    (h : Rdr D rb w l d) (hd : d ≤ 40) (hl : l.length ≤ lid) :
    Calls Tryz.prog 147 #[.pointer (some ⟨rb, 0, none⟩), .func (.func 148) #[.pointer (some ⟨rb, 0, none⟩)] #[]] w (NodesPost D rb d w l) := by
  have hrb := h.lt
  have Hoff := hide h.off
  have H := hide h.old
  have Hnode := hide hnode
  obtain ⟨i0, hi, hz0, hz1, hz2⟩ := info_parts InfoNode
  clear h hnode
  by_cases h8 : l.length < 8
  · go_enter Tryz.func147, Tryz.ntmps147
    go_wp2_with (go_at_call 91; (with_reducible refine (number_no H.out h8).mono ?_); rintro e w1 ⟨rfl, hs⟩; exact ⟨rfl, .inr ⟨nodes_short h8, rfl, hs⟩⟩)
  obtain ⟨n, l1, rfl, hn⟩ := num8_exists (l := l) (by omega)
  have Hn := hide hn
  unfold is63 at hn
  have hl1 : 8 + l1.length ≤ 1099511627776 := by rw [List.length_append, num8_len] at hl; exact hl
  have hq8 : wrap64 ((l1.length : Int) / 8) = (l1.length : Int) / 8 := by unfold wrap64; omega
  by_cases hok : 0 ≤ n ∧ n ≤ (l1.length : Int) / 8
  · obtain ⟨ha, hb⟩ := hok
    clear hl h8
    go_enter Tryz.func147, Tryz.ntmps147
    go_wp2_with (first
      | (go_at_call 91; (with_reducible refine (number_yes (n := n) (l' := l1) H.out Hn.out).mono ?_); rintro e w1 ⟨rfl, hr, hs⟩; obtain ⟨A1, c1, q0⟩ := hr.slice; have Hr := hide hr; have Hs := hide hs; clear hr hs)
      | (go_at_call 94; refine (must_yes (by first | rfl | (simp; omega)) _).mono ?_; rintro e w2 ⟨rfl, rfl⟩))
    have hw1 := Hs.out.size
    go_loopw [24, 6] (fun i v wr => ∃ (f : Fo) (vs : List Value) (lq : List UInt8), i = .int .i64 f.len ∧ (f.len : Int) ≤ n ∧ Hid (l1 = foB f ++ lq) ∧ Hid f.fit ∧ Hid (f.high + d ≤ 40) ∧ Hid (wr.ownsRow 0 55 4 v f.len vs) ∧ Hid (∀ g, v.ownBlock = some g → w.heap.size ≤ g) ∧
        Hid (∃ R, FoR wr vs f R ∧ (ob v ++ obs R).Nodup ∧ ∀ b ∈ obs R, w.heap.size ≤ b) ∧ Hid (Rdr (fun b => D b ∧ b < w.heap.size) rb wr lq d) ∧ Hid (Side rb w wr)) (fun i _ _ => (n - intOf i).toNat)
    case atStart => exact ⟨.nil, [], l1, rfl, ha, hide rfl, hide trivial, hide (by simpa [Fo.high] using hd), hide (World.ownsRow_nil _ _ _ _), hide (by simp [Value.ownBlock]), hide ⟨[], ⟨rfl, rfl⟩, by simp [ob, obs, Value.ownBlock], by simp [obs]⟩, Hr, Hs⟩
    case round =>
      obtain ⟨f, vs, lq, rfl, hle, He, Hf, Hh, Ho, Hg, Hc, Hq, HS⟩ := hrel
      have hfl := foB_len f
      have hlq : (foB f).length + lq.length = l1.length := by rw [He.out, List.length_append]
      have hxl : 8 * f.len ≤ l1.length := by omega
      have hwr := HS.out.size
      by_cases hlt : (f.len : Int) < n
      · go_wp2_with (first
          | (go_at_call 148; (refine (Hnode.out _ _ lq (by rw [List.length_append, num8_len]; omega) Hq.out).mono ?_); rintro e w3 (⟨k, t, m, ks, l2, KA, c, he2, hfit, hhi, rfl, hin, hc1, hc2, hr2, hs2, L1, hO, hOl⟩ | ⟨hno, rfl, hs2⟩))
          | (at_builtin; refine wpList_append_own2 _ rfl _ _ 28 rfl 55 i0 (.agg #[.int .u8 0, .string ByteArray.empty, .int .i64 0, .slice none 0 0]) 4 56 Tryz.underlying28 hi hz0 hz1 hz2 rfl (by decide) _ f.len vs rfl ((own_side Ho.out (fun g hg => by have := Hg.out g hg; omega) hs2).alloc _) ⟨w3.heap.size, 0, none⟩ 1 1 [.int .u8 k, .string t, .int .i64 m, .slice KA ks.len c] rfl rfl (cell_four_new _ _ _ _ _ _) (by intro u hu; simp at hu; rcases hu with rfl | rfl | rfl | rfl <;> rfl) (by unfold maxLen; omega) (by omega) ?_; intro v' w4 hown hgrow hnil hwhere))
        · have hS3 : Side rb w w3 := Side.trans HS.out hs2
          have hsz := hS3.size
          have hwsz := hs2.size
          obtain ⟨f1, f2, f3, f4, f5⟩ := hfit
          have hlen1 : (f.app (.cons k t m ks .nil)).len = f.len + 1 := by rw [Fo.len_app]; rfl
          have hc3 : ∃ R, FoR w4 (vs ++ [.int .u8 k, .string t, .int .i64 m, .slice KA ks.len c]) (f.app (.cons k t m ks .nil)) R ∧ (ob v' ++ obs R).Nodup ∧ ∀ b ∈ obs R, w.heap.size ≤ b := by
            obtain ⟨R, hR, hRn, hRl⟩ := Hc.out
            obtain ⟨ys, R1, hy, hR1, rfl, hn1⟩ := hO
            have hRd := (List.nodup_append.1 hRn).2.2
            have hu1 : ∀ b ∈ ob (.slice KA ks.len c) ++ obs R1, b < w3.heap.size := fun b hb => (List.mem_append.1 hb).elim (own_lt hy b) (hR1.lt b)
            have hu : ∀ b ∈ obs R, b < wr.heap.size := hR.lt
            have hk1 : ∀ b ∈ ob (.slice KA ks.len c) ++ obs R1, w4.heap[b]? = w3.heap[b]? := fun b hb => by
              have h1 := hu1 b hb
              have h2 := hOl b hb
              rw [hgrow.block b (by simp; omega) (fun e => by have := (Ho.out.lt b e.symm).2; omega)]
              exact Below.heap_alloc w3 _ b h1
            have hk : ∀ b ∈ obs R, w4.heap[b]? = wr.heap[b]? := fun b hb => by
              have h1 := hu b hb
              have h2 := hRl b hb
              rw [hgrow.block b (by simp; omega) (fun e => hRd b (mem_ob.2 e.symm) b hb rfl), Below.heap_alloc w3 _ b (by omega)]
              exact hs2.block b ⟨h1, by omega⟩
            refine ⟨_, FoR.snoc ⟨f1, f2, f3⟩ (own_kept hy fun b hb => hk1 b (by simp [hb])) (hR1.keep fun b hb => hk1 b (by simp [hb])) (hR.keep hk), ?_, ?_⟩
            · rw [obs_app, obs_cons]
              refine List.nodup_append.2 ⟨ob_nodup _, nodup_ranges (List.nodup_append.1 hRn).2.1 hn1 hu hOl, fun a ha b hb e => ?_⟩
              subst e
              have ha := mem_ob.1 ha
              rcases hwhere with e2 | e2
              · rw [e2] at ha
                have h0 := (Ho.out.lt a ha).2
                rcases List.mem_append.1 hb with hb | hb
                · exact hRd a (mem_ob.2 ha) a hb rfl
                · have := hOl a hb; omega
              · rw [ha] at e2
                injection e2 with e2
                simp at e2
                rcases List.mem_append.1 hb with hb | hb
                · have := hu a hb; omega
                · have := hu1 a hb; omega
            · intro b hb
              rw [obs_app, obs_cons] at hb
              rcases List.mem_append.1 hb with hb | hb
              · exact hRl b hb
              · exact Nat.le_trans hwr (hOl b hb)
          refine ⟨⟨f.app (.cons k t m ks .nil), _, l2, by rw [hlen1]; simp, by rw [hlen1]; omega, hide ?_, hide ?_, hide ?_, hide ?_, hide ?_, hide hc3, hide ?_, hide ?_⟩, by simp [intOf]; omega⟩
          · rw [He.out, he2, foB_app, foB_cons]; simp [foB]
          · exact Fo.fit_app.mpr ⟨Hf.out, f1, f2, f3, f5, f4, trivial⟩
          · rw [Fo.high_app]; simp only [Fo.high]; have := Hh.out; omega
          · rw [hlen1]; exact hown
          · intro g hg
            rcases hwhere with e | e
            · exact Hg.out g (e ▸ hg)
            · rw [hg] at e; injection e with e; simp at e; omega
          · exact rdr_grown (hr2.alloc _) hgrow hrb (by simp; omega) (fun k hk => Hg.out k hk)
          · exact Keep.grown (Side.alloc hS3 _) hgrow (fun k hk => hk.1) (fun k hk hp => absurd hp.1 (by have := Hg.out k hk; omega))
        · exact ⟨rfl, .inr ⟨nodes_next Hn.out Hf.out He.out hlt hno, rfl, Side.trans HS.out hs2⟩⟩
      · go_wp2_with fail
        obtain ⟨R, hR, hRn, hRl⟩ := Hc.out
        obtain ⟨A2, c2, rfl, hrd, hc2, hc3⟩ := own_fo Ho.out Hg.out (hR.cells fun b hb => ⟨hRl b hb, fun e => (List.nodup_append.1 hRn).2.2 b (mem_ob.2 e) b hb rfl⟩) rfl
        go_ret
        have hnn : n = (f.len : Int) := by omega
        refine .inl ⟨f, lq, _, _, ?_, Hf.out, Hh.out, rfl, hrd, hc2, hc3, Hq.out.back Hoff.out, HS.out, _, ⟨vs, R, Ho.out, hR, rfl, hRn⟩, fun b hb => (List.mem_append.1 hb).elim (fun h => Hg.out b (mem_ob.1 h)) (hRl b)⟩
        rw [He.out, hnn, ← List.append_assoc]; rfl
  · go_enter Tryz.func147, Tryz.ntmps147
    go_wp2_with (first
      | (go_at_call 91; (with_reducible refine (number_yes (n := n) (l' := l1) H.out Hn.out).mono ?_); rintro e w1 ⟨rfl, hr, hs⟩; obtain ⟨A1, c1, q0⟩ := hr.slice; have Hr := hide hr; have Hs := hide hs; clear hr hs)
      | (go_at_call 94; refine (must_no (by first | rfl | (simp; omega)) _).mono ?_; rintro e w2 ⟨rfl, rfl⟩))
    all_goals exact ⟨rfl, .inr ⟨nodes_guard Hn.out hok, rfl, Hs.out⟩⟩

theorem Rdr.setNew {D : Nat → Prop} {rb d B : Nat} {w : World} {l : List UInt8} (h : Rdr (fun b => D b ∧ b < B) rb w l d) (hrb : rb < B) {a : Addr} (ha : B ≤ a.block) (u : Value) : Rdr (fun b => D b ∧ b < B) rb (w.setCell a u) l d :=
  h.keep fun b hb => Below.heap_setCell w a u b (by
    have hlt : b < B := hb.elim (fun h => h.2) (fun e => e ▸ hrb)
    omega)
theorem Rdr.setDeep {D : Nat → Prop} {rb d d' : Nat} {w : World} {l : List UInt8} (h : Rdr D rb w l d) : Rdr D rb (w.setCell ⟨rb, 1, none⟩ (.int .i64 d')) l d' := by
  obtain ⟨A, c, h0, h1, h2, h3, h4, h5, h6, h7⟩ := h
  refine ⟨A, c, ?_, World.cell?_setCell_same _ _ _ h1, by rw [World.frozen?_setCell]; exact h2, by rw [World.frozen?_setCell]; exact h3, h4.keep fun b hb => Below.heap_setCell w _ _ b (h7 b hb), h5, h6, h7⟩
  rw [World.cell?_setCell_other]
  · exact h0
  · simp
theorem node_short {d : Nat} {l : List UInt8} (h : l = [] ∨ 40 ≤ d) : ¬ NodeAt d l := by
  rintro ⟨k, t, n, ks, l', _, hh, rfl⟩
  rcases h with h | h
  · simp [nodeB] at h
  · omega

theorem FoIn.setLow {B : Nat} {w : World} {A : Option Addr} {f : Fo} (h : FoIn (fun b => B ≤ b) w A f) {a : Addr} (ha : a.block < B) (u : Value) : FoIn (fun b => B ≤ b) (w.setCell a u) A f :=
  h.keep fun b hb => Below.heap_setCell w a u b (by omega)
theorem NodesO.setLow {B c : Nat} {w : World} {A : Option Addr} {f : Fo} {L : List Nat} (h : NodesO w A c f L ∧ ∀ b ∈ L, B ≤ b) {a : Addr} (ha : a.block < B) (u : Value) : NodesO (w.setCell a u) A c f L ∧ ∀ b ∈ L, B ≤ b :=
  ⟨h.1.keep fun b hb => Below.heap_setCell w a u b (by have := h.2 b hb; omega), h.2⟩
theorem node_no1 {d : Nat} {x : UInt8} {l1 : List UInt8} (h : ¬ TextAt l1) : ¬ NodeAt d (x :: l1) := by
  rintro ⟨k, t, n, ks, l', hf, _, he⟩
  simp only [nodeB, List.cons_append, List.append_assoc, List.cons.injEq] at he
  exact h ⟨t, _, hf.2.1, he.2⟩
theorem node_no2 {d : Nat} {x : UInt8} {s : ByteArray} {l2 : List UInt8} (hs : s.size ≤ max63) (h : l2.length < 8) : ¬ NodeAt d (x :: (txtB s ++ l2)) := by
  rintro ⟨k, t, n, ks, l', hf, _, he⟩
  simp only [nodeB, List.cons_append, List.append_assoc, List.cons.injEq] at he
  obtain ⟨_, e2⟩ := txtB_split hs hf.2.1 he.2
  rw [e2, List.length_append, num8_len] at h
  omega
theorem node_no3 {d : Nat} {x : UInt8} {s : ByteArray} {n : Int} {l3 : List UInt8} (hs : s.size ≤ max63) (hn : is63 n) (h : ¬ NodesAt (d + 1) l3) : ¬ NodeAt d (x :: (txtB s ++ (num8 n ++ l3))) := by
  rintro ⟨k, t, m, ks, l', hf, hh, he⟩
  simp only [nodeB, List.cons_append, List.append_assoc, List.cons.injEq] at he
  obtain ⟨_, e2⟩ := txtB_split hs hf.2.1 he.2
  obtain ⟨_, e3⟩ := num8_split hn hf.2.2.1 e2
  exact h ⟨ks, l', hf.2.2.2, by omega, e3⟩

set_option maxHeartbeats 2000000 in
set_option maxRecDepth 1000000 in
theorem node_of_some {D : Nat → Prop} {rb d : Nat} {w : World} {l : List UInt8}
    (hsome : ∀ (D' : Nat → Prop) (w' : World) (l' : List UInt8), l'.length < l.length → Rdr D' rb w' l' (d + 1) → Calls Tryz.prog 147 #[.pointer (some ⟨rb, 0, none⟩), .func (.func 148) #[.pointer (some ⟨rb, 0, none⟩)] #[]] w' (NodesPost D' rb (d + 1) w' l'))
    (h : Rdr D rb w l d) (hd : d ≤ 40) (hl : l.length ≤ lid) :
    Calls Tryz.prog 148 #[.pointer (some ⟨rb, 0, none⟩)] w (NodePost D rb d w l) := by
  have hrb := h.lt
  have Hoff := hide h.off
  have H := hide h.old
  have Hsome := hide hsome
  obtain ⟨qd, qf⟩ := h.deep
  clear h hsome
  by_cases hd40 : d < 40
  · have Ha : ∀ o, Hid (Rdr (fun b => D b ∧ b < w.heap.size) rb ((w.setCell ⟨rb, 1, none⟩ (.int .i64 ((d : Int) + 1))).alloc o) l (d + 1)) := fun o => hide (by
      have := (H.out.setDeep (d' := d + 1)).alloc o
      simpa using this)
    have Sa : ∀ o, Hid (Side rb w ((w.setCell ⟨rb, 1, none⟩ (.int .i64 ((d : Int) + 1))).alloc o)) := fun o => hide (Side.alloc (Side.set (Side.refl rb w) 1 _) o)
    rcases l with _ | ⟨x, l1⟩
    · go_enter Tryz.func148, Tryz.ntmps148
      go_wp2_with (first
        | (go_at_call 94; refine (must_yes (by first | rfl | (simp; omega)) _).mono ?_; rintro e w2 ⟨rfl, rfl⟩)
        | (go_at_call 89; refine (take_no (Ha _).out (by unfold is63; omega) (by simp)).mono ?_; rintro e w2 ⟨rfl, hs⟩; exact ⟨rfl, .inr ⟨node_short (.inl rfl), rfl, Side.trans (Sa _).out hs⟩⟩))
    · have hx := x.toNat_lt
      have hll : l1.length + 1 ≤ 1099511627776 := hl
      go_enter Tryz.func148, Tryz.ntmps148
      go_wp2_with (first
        | (go_at_call 94; refine (must_yes (by first | rfl | (simp; omega)) _).mono ?_; rintro e w2 ⟨rfl, rfl⟩)
        | (go_at_call 89; refine (take_lit (Ha _).out (by simp)).mono ?_; rintro e w2 ⟨A, c, rfl, hb, hr, hs⟩; obtain ⟨bb, bo, rfl, hx0⟩ := hb.1.at_ (j := 0) (by simp [bytesV]); simp only [bytesV, List.take_succ_cons, List.take_zero, List.map_cons, List.map_nil, List.getElem_cons_zero, Nat.add_zero] at hx0; obtain ⟨ha2, hb2, hc2⟩ := hs.box (N := w.heap.size) (by simp) (by omega); have Hr2 : Hid (Rdr (fun b => D b ∧ b < w.heap.size) rb w2 l1 (d + 1)) := hide hr; have HS2 := hide (Side.trans (Sa _).out hs); clear hb hr hs)
        | (go_at_call 90; refine (text_get (Hr2.out.alloc _) (show _ ≤ 9223372036854775807 by omega)).mono ?_; rintro e w3 (⟨s, l2, he3, hsz, rfl, hr, hs⟩ | ⟨hno, rfl, hs⟩); all_goals first
            | exact ⟨rfl, .inr ⟨node_no1 hno, rfl, Side.trans (Side.alloc HS2.out _) hs⟩⟩
            | (obtain ⟨ha3, hb3, hc3⟩ := hs.box (N := w.heap.size) (by simp; omega) (by omega); obtain ⟨ia3, ib3, ic3⟩ := hs.box (N := w2.heap.size) (by simp) (by omega); have Hr3 := hide hr; have HS3 := hide (Side.trans (Side.alloc HS2.out _) hs); have He3 := hide he3; clear hr hs he3))
        | (go_at_call 91; refine (number_get (Hr3.out.setNew hrb (a := ⟨w2.heap.size, 1, none⟩) (Nat.le_of_lt hc2) _)).mono ?_; rintro e w4 (⟨n, l3, he4, hn, rfl, hr, hs⟩ | ⟨h8, rfl, hs⟩); all_goals first
            | exact ⟨rfl, .inr ⟨by rw [He3.out]; exact node_no2 hsz h8, rfl, Side.trans (Side.setNew HS3.out (a := ⟨w2.heap.size, 1, none⟩) (Nat.le_of_lt hc2) _) hs⟩⟩
            | (obtain ⟨ha4, hb4, hc4⟩ := hs.box (N := w.heap.size) (by simp; omega) (by omega); obtain ⟨ia4, ib4, ic4⟩ := hs.box (N := w2.heap.size) (by simp; omega) (by omega); have Hr4 := hide hr; have HS4 := hide (Side.trans (Side.setNew HS3.out (a := ⟨w2.heap.size, 1, none⟩) (Nat.le_of_lt hc2) _) hs); have He4 := hide he4; have Hn := hide hn; have hll2 : l3.length < (x :: l1).length := (by rw [He3.out, he4]; simp [num8_len]; omega); clear hr hs he4 hn))
        | (go_at_call 147; refine (Hsome.out _ _ l3 hll2 (Hr4.out.setNew hrb (a := ⟨w2.heap.size, 2, none⟩) (Nat.le_of_lt hc2) _)).mono ?_; rintro e w5 hP; rcases hP with ⟨ks, l4, KA, kc, he5, hfit, hhi, rfl, hin, hk1, hk2, hr, hs, L1, hO, hOl⟩ | ⟨hno, rfl, hs⟩; all_goals first
            | exact ⟨rfl, .inr ⟨by rw [He3.out, He4.out]; exact node_no3 hsz Hn.out hno, rfl, Side.trans (Side.setNew HS4.out (a := ⟨w2.heap.size, 2, none⟩) (Nat.le_of_lt hc2) _) hs⟩⟩
            | (obtain ⟨ha5, hb5, hc5⟩ := hs.box (N := w.heap.size) (by simp; omega) (by omega); obtain ⟨ia5, ib5, ic5⟩ := hs.box (N := w2.heap.size) (by simp; omega) (by omega); have Hr5 := hide hr; obtain ⟨qd5, qf5⟩ := hr.deep; have HS5 := hide (Side.trans (Side.setNew HS4.out (a := ⟨w2.heap.size, 2, none⟩) (Nat.le_of_lt hc2) _) hs); have He5 := hide he5; have Hfit := hide hfit; have Hin := hide hin; have HO1 := hide (And.intro hO hOl); clear hr hs he5 hfit hin hO hOl)))
      refine bodyPost_ret (v := .agg #[.int .u8 x.toNat, .string s, .int .i64 n, .slice KA ks.len kc]) ?_ rfl ?_
      · have hne1 : ¬ w.heap.size = rb := by omega
        have hne2 : ¬ rb = w.heap.size := by omega
        have hne3 : ¬ w2.heap.size = w.heap.size := by omega
        have hne4 : ¬ w.heap.size = w2.heap.size := by omega
        have hne5 : ¬ w2.heap.size = rb := by omega
        have hne6 : ¬ rb = w2.heap.size := by omega
        simp only [results, Tryz.results148]
        go_simp
      · have hle2 : w.heap.size ≤ w2.heap.size := Nat.le_of_lt hc2
        have hW4 : ∀ N, N ≤ w2.heap.size → N < (w4.setCell ⟨w2.heap.size, 2, none⟩ (.int .i64 n)).heap.size := fun N h => by simp; omega
        refine .inl ⟨x.toNat, s, n, ks, l4, KA, kc, ?_, ⟨by omega, hsz, Hn.out, Hfit.out, Nat.le_trans hk1 hk2⟩, by omega, rfl, ?_, hk1, hk2, ?_, ?_, L1, ?_⟩
        · rw [He3.out, He4.out, He5.out]
          simp [nodeB]
        · refine FoIn.mono (((((((Hin.out.setLow (a := ⟨w2.heap.size, 3, none⟩) (hW4 _ (Nat.le_refl _)) _).setLow (a := ⟨rb, 1, none⟩) (hW4 _ (by show rb ≤ _; omega)) _).setLow (a := ⟨w.heap.size, 0, none⟩) (hW4 _ hle2) _).setLow (a := ⟨w.heap.size, 1, none⟩) (hW4 _ hle2) _).setLow (a := ⟨w.heap.size, 2, none⟩) (hW4 _ hle2) _).setLow (a := ⟨w.heap.size, 3, none⟩) (hW4 _ hle2) _)) (fun b _ hb => ?_)
          have h1 := hW4 _ (Nat.le_refl _)
          exact Nat.le_trans (Nat.le_trans hle2 (Nat.le_of_lt h1)) hb
        · exact ((((((Hr5.out.setNew hrb (a := ⟨w2.heap.size, 3, none⟩) hle2 _).setDeep (d' := d)).setNew hrb (a := ⟨w.heap.size, 0, none⟩) (Nat.le_refl _) _).setNew hrb (a := ⟨w.heap.size, 1, none⟩) (Nat.le_refl _) _).setNew hrb (a := ⟨w.heap.size, 2, none⟩) (Nat.le_refl _) _).setNew hrb (a := ⟨w.heap.size, 3, none⟩) (Nat.le_refl _) _).back Hoff.out
        · exact Side.setNew (Side.setNew (Side.setNew (Side.setNew (Side.set (Side.setNew HS5.out (a := ⟨w2.heap.size, 3, none⟩) hle2 _) 1 _) (a := ⟨w.heap.size, 0, none⟩) (Nat.le_refl _) _) (a := ⟨w.heap.size, 1, none⟩) (Nat.le_refl _) _) (a := ⟨w.heap.size, 2, none⟩) (Nat.le_refl _) _) (a := ⟨w.heap.size, 3, none⟩) (Nat.le_refl _) _
        · have h1 := hW4 _ (Nat.le_refl _)
          have hz := NodesO.setLow (NodesO.setLow (NodesO.setLow (NodesO.setLow (NodesO.setLow (NodesO.setLow HO1.out (a := ⟨w2.heap.size, 3, none⟩) (hW4 _ (Nat.le_refl _)) (.slice KA ks.len kc)) (a := ⟨rb, 1, none⟩) (hW4 _ (by show rb ≤ _; omega)) (.int .i64 d)) (a := ⟨w.heap.size, 0, none⟩) (hW4 _ hle2) (.int .u8 x.toNat)) (a := ⟨w.heap.size, 1, none⟩) (hW4 _ hle2) (.string s)) (a := ⟨w.heap.size, 2, none⟩) (hW4 _ hle2) (.int .i64 n)) (a := ⟨w.heap.size, 3, none⟩) (hW4 _ hle2) (.slice KA ks.len kc)
          exact ⟨hz.1, fun b hb => Nat.le_trans (Nat.le_trans hle2 (Nat.le_of_lt h1)) (hz.2 b hb)⟩
  · go_enter Tryz.func148, Tryz.ntmps148
    go_wp2_with (go_at_call 94; refine (must_no (by first | rfl | (simp; omega)) _).mono ?_; rintro e w2 ⟨rfl, rfl⟩)
    all_goals exact ⟨rfl, .inr ⟨node_short (.inr (by omega)), rfl, (Side.refl rb w).alloc _⟩⟩

theorem node_upto (N : Nat) : ∀ (D : Nat → Prop) (rb d : Nat) (w : World) (l : List UInt8), l.length < N → Rdr D rb w l d → d ≤ 40 → l.length ≤ lid →
    Calls Tryz.prog 148 #[.pointer (some ⟨rb, 0, none⟩)] w (NodePost D rb d w l) := by
  induction N with
  | zero => intro D rb d w l h; omega
  | succ N ih =>
    intro D rb d w l hN h hd hl
    by_cases hd40 : d < 40
    · exact node_of_some (fun D' w' l' hlt h' => someNode_of (fun D2 w2 l2 hlt2 h2 => ih D2 rb (d + 1) w2 l2 (by omega) h2 (by omega) (by omega)) h' (by omega) (by omega)) h hd hl
    · have hrb := h.lt
      obtain ⟨qd, qf⟩ := h.deep
      clear h
      go_enter Tryz.func148, Tryz.ntmps148
      go_wp2_with (go_at_call 94; refine (must_no (by first | rfl | (simp; omega)) _).mono ?_; rintro e w2 ⟨rfl, rfl⟩)
      all_goals exact ⟨rfl, .inr ⟨node_short (.inr (by omega)), rfl, (Side.refl rb w).alloc _⟩⟩
theorem node_get {D : Nat → Prop} {rb d : Nat} {w : World} {l : List UInt8} (h : Rdr D rb w l d) (hd : d ≤ 40) (hl : l.length ≤ lid) : Calls Tryz.prog 148 #[.pointer (some ⟨rb, 0, none⟩)] w (NodePost D rb d w l) :=
  node_upto (l.length + 1) D rb d w l (by omega) h hd hl
theorem someNode_get {D : Nat → Prop} {rb d : Nat} {w : World} {l : List UInt8} (h : Rdr D rb w l d) (hd : d ≤ 40) (hl : l.length ≤ lid) :
    Calls Tryz.prog 147 #[.pointer (some ⟨rb, 0, none⟩), .func (.func 148) #[.pointer (some ⟨rb, 0, none⟩)] #[]] w (NodesPost D rb d w l) :=
  someNode_of (fun _ _ _ hlt h' => node_get h' hd (by omega)) h hd hl

end Go.Proofs.YtfhfkbdaglegpaaGreatDoor

namespace Go.Proofs.YtfhfkbdaglegpaaGreatDoor
open Go.RowKit

/-- what was made behind block N is kept -/
abbrev Late (N : Nat) (w w' : World) : Prop := Keep (fun b => N < b ∧ b < w.heap.size) w w'
section
variable {N rb : Nat} {w w' w'' : World} {A : Option Addr}
theorem Late.refl (N : Nat) (w : World) : Late N w w := Keep.refl _ _
theorem Late.set (h : Late N w w') {a : Addr} (ha : a.block ≤ N) (u : Value) : Late N w (w'.setCell a u) := Keep.setCell h (fun hk => absurd hk.1 (by omega)) u
theorem Late.side (h : Late N w w') (hrb : rb < N) (hs : Side rb w' w'') : Late N w w'' :=
  Keep.trans h (Keep.mono hs fun k hk => ⟨Nat.lt_of_lt_of_le hk.2 h.size, by have := hk.1; omega⟩)
theorem Late.trans (h : Late N w w') (h' : Late N w' w'') : Late N w w'' := Keep.trans h (Keep.mono h' fun k hk => ⟨hk.1, Nat.lt_of_lt_of_le hk.2 h.size⟩)
theorem Rd.late {xs : List Value} (h : Rd (fun b => N < b) w A xs) (hl : Late N w w') : Rd (fun b => N < b) w' A xs :=
  ((h.mono (S' := fun b => N < b ∧ b < w.heap.size) fun _ h1 h2 => ⟨h2, h1⟩).keep hl.block).mono fun _ _ h => h.1
theorem IntsIn.late {l : List Int} (h : IntsIn (fun b => N < b) w A l) (hl : Late N w w') : IntsIn (fun b => N < b) w' A l := ⟨h.1.late hl, h.2⟩
theorem StrsIn.late {l : List ByteArray} (h : StrsIn (fun b => N < b) w A l) (hl : Late N w w') : StrsIn (fun b => N < b) w' A l := ⟨h.1.late hl, h.2⟩
theorem FoIn.late {f : Fo} (h : FoIn (fun b => N < b) w A f) (hl : Late N w w') : FoIn (fun b => N < b) w' A f :=
  ((h.mono (S' := fun b => N < b ∧ b < w.heap.size) fun _ h1 h2 => ⟨h2, h1⟩).keep hl.block).mono fun _ _ h => h.1
theorem EdIn.late {x : Eh} {e : Ed} (a : EdIn (fun b => N < b) w x e) (hl : Late N w w') : EdIn (fun b => N < b) w' x e :=
  ⟨a.kind, a.path.late hl, a.at_, a.far, a.frm, a.to, a.old.late hl, a.new.late hl, a.pc, a.oc, a.nc⟩
end

def EdAt (d : Nat) (l : List UInt8) : Prop := ∃ (e : Ed) (l' : List UInt8), EdFit e ∧ e.old.high + d ≤ 40 ∧ e.new.high + d ≤ 40 ∧ l = edB e ++ l'
theorem ed_no0 {d : Nat} {x : UInt8} {l1 : List UInt8}   (h : ¬ RowAt num8 is63 l1) : ¬ EdAt d (x :: (l1)) := by
  rintro ⟨e, l', hf, hh1, hh2, he⟩
  simp only [edB, List.cons_append, List.append_assoc, List.cons.injEq] at he
  obtain ⟨_, he⟩ := he
  exact h ⟨e.path, _, hf.path.1, hf.path.2, he⟩
theorem ed_no1 {d : Nat} {x : UInt8} {l1 : List UInt8} {p : List Int} (h1 : IntsFit p) (h : l1.length < 8) : ¬ EdAt d (x :: (pathB p ++ (l1))) := by
  rintro ⟨e, l', hf, hh1, hh2, he⟩
  simp only [edB, List.cons_append, List.append_assoc, List.cons.injEq] at he
  obtain ⟨_, he⟩ := he
  obtain ⟨_, he⟩ := pathB_split h1 hf.path he
  rw [he, List.length_append, num8_len] at h; omega
theorem ed_no2 {d : Nat} {x : UInt8} {l1 : List UInt8} {p : List Int} {a : Int} (h1 : IntsFit p) (h2 : is63 a) (h : l1.length < 8) : ¬ EdAt d (x :: (pathB p ++ (num8 a ++ (l1)))) := by
  rintro ⟨e, l', hf, hh1, hh2, he⟩
  simp only [edB, List.cons_append, List.append_assoc, List.cons.injEq] at he
  obtain ⟨_, he⟩ := he
  obtain ⟨_, he⟩ := pathB_split h1 hf.path he
  obtain ⟨_, he⟩ := num8_split h2 hf.at_ he
  rw [he, List.length_append, num8_len] at h; omega
theorem ed_no3 {d : Nat} {x : UInt8} {l1 : List UInt8} {p : List Int} {a : Int} {f : Int} (h1 : IntsFit p) (h2 : is63 a) (h3 : is63 f) (h : ¬ TextAt l1) : ¬ EdAt d (x :: (pathB p ++ (num8 a ++ (num8 f ++ (l1))))) := by
  rintro ⟨e, l', hf, hh1, hh2, he⟩
  simp only [edB, List.cons_append, List.append_assoc, List.cons.injEq] at he
  obtain ⟨_, he⟩ := he
  obtain ⟨_, he⟩ := pathB_split h1 hf.path he
  obtain ⟨_, he⟩ := num8_split h2 hf.at_ he
  obtain ⟨_, he⟩ := num8_split h3 hf.far he
  exact h ⟨e.frm, _, hf.frm, he⟩
theorem ed_no4 {d : Nat} {x : UInt8} {l1 : List UInt8} {p : List Int} {a : Int} {f : Int} {s : ByteArray} (h1 : IntsFit p) (h2 : is63 a) (h3 : is63 f) (h4 : s.size ≤ max63) (h : ¬ TextAt l1) : ¬ EdAt d (x :: (pathB p ++ (num8 a ++ (num8 f ++ (txtB s ++ (l1)))))) := by
  rintro ⟨e, l', hf, hh1, hh2, he⟩
  simp only [edB, List.cons_append, List.append_assoc, List.cons.injEq] at he
  obtain ⟨_, he⟩ := he
  obtain ⟨_, he⟩ := pathB_split h1 hf.path he
  obtain ⟨_, he⟩ := num8_split h2 hf.at_ he
  obtain ⟨_, he⟩ := num8_split h3 hf.far he
  obtain ⟨_, he⟩ := txtB_split h4 hf.frm he
  exact h ⟨e.to, _, hf.to, he⟩
theorem ed_no5 {d : Nat} {x : UInt8} {l1 : List UInt8} {p : List Int} {a : Int} {f : Int} {s : ByteArray} {t : ByteArray} (h1 : IntsFit p) (h2 : is63 a) (h3 : is63 f) (h4 : s.size ≤ max63) (h5 : t.size ≤ max63) (h : ¬ NodesAt d l1) : ¬ EdAt d (x :: (pathB p ++ (num8 a ++ (num8 f ++ (txtB s ++ (txtB t ++ (l1))))))) := by
  rintro ⟨e, l', hf, hh1, hh2, he⟩
  simp only [edB, List.cons_append, List.append_assoc, List.cons.injEq] at he
  obtain ⟨_, he⟩ := he
  obtain ⟨_, he⟩ := pathB_split h1 hf.path he
  obtain ⟨_, he⟩ := num8_split h2 hf.at_ he
  obtain ⟨_, he⟩ := num8_split h3 hf.far he
  obtain ⟨_, he⟩ := txtB_split h4 hf.frm he
  obtain ⟨_, he⟩ := txtB_split h5 hf.to he
  exact h ⟨e.old, _, hf.old, hh1, he⟩
theorem ed_no6 {d : Nat} {x : UInt8} {l1 : List UInt8} {p : List Int} {a : Int} {f : Int} {s : ByteArray} {t : ByteArray} {o : Fo} (h1 : IntsFit p) (h2 : is63 a) (h3 : is63 f) (h4 : s.size ≤ max63) (h5 : t.size ≤ max63) (h6 : NodesFit o) (h : ¬ NodesAt d l1) : ¬ EdAt d (x :: (pathB p ++ (num8 a ++ (num8 f ++ (txtB s ++ (txtB t ++ (nodesB o ++ (l1)))))))) := by
  rintro ⟨e, l', hf, hh1, hh2, he⟩
  simp only [edB, List.cons_append, List.append_assoc, List.cons.injEq] at he
  obtain ⟨_, he⟩ := he
  obtain ⟨_, he⟩ := pathB_split h1 hf.path he
  obtain ⟨_, he⟩ := num8_split h2 hf.at_ he
  obtain ⟨_, he⟩ := num8_split h3 hf.far he
  obtain ⟨_, he⟩ := txtB_split h4 hf.frm he
  obtain ⟨_, he⟩ := txtB_split h5 hf.to he
  obtain ⟨_, he⟩ := nodesB_split h6 hf.old he
  exact h ⟨e.new, _, hf.new, hh2, he⟩
theorem ed_no {d : Nat} : ¬ EdAt d [] := by
  rintro ⟨e, l', _, _, _, he⟩
  simp [edB] at he
/-- the rows of an edit, made one behind the other -/
theorem ed_done {N : Nat} {w3 w7 w8 w9 wF : World} {x : Eh} {e : Ed} {L3 L8 L9 : List Nat} (o3 : RowO 3 w3 x.pA x.pc e.path.length (e.path.map (.int .i64)) L3) (o8 : NodesO w8 x.oA x.oc e.old L8) (o9 : NodesO w9 x.nA x.nc e.new L9)
    (m3 : ∀ b ∈ L3, N < b) (m8 : ∀ b ∈ L8, w7.heap.size ≤ b) (m9 : ∀ b ∈ L9, w8.heap.size ≤ b) (h37 : Late N w3 w7) (h78 : Late N w7 w8) (h8F : Late N w8 wF) (h9F : Late N w9 wF) (hN : N < w7.heap.size) :
    ∃ L, EdO wF x e L ∧ L.Nodup ∧ ∀ b ∈ L, N < b := by
  have q8 : ∀ b ∈ L8, N < b := fun b hb => Nat.lt_of_lt_of_le hN (m8 b hb)
  have q9 : ∀ b ∈ L9, N < b := fun b hb => Nat.lt_of_lt_of_le hN (Nat.le_trans h78.size (m9 b hb))
  refine ⟨L3 ++ (L8 ++ L9), ⟨L3, L8, L9, o3.keep fun b hb => (h37.trans (h78.trans h8F)).block b ⟨m3 b hb, o3.lt b hb⟩, o8.keep fun b hb => h8F.block b ⟨q8 b hb, o8.lt b hb⟩, o9.keep fun b hb => h9F.block b ⟨q9 b hb, o9.lt b hb⟩, rfl⟩, ?_, fun b hb => ?_⟩
  · refine nodup_ranges o3.nodup (nodup_ranges o8.nodup o9.nodup o8.lt m9) (M := w7.heap.size) (fun b hb => Nat.lt_of_lt_of_le (o3.lt b hb) h37.size) fun b hb => ?_
    rcases List.mem_append.1 hb with hb | hb
    · exact m8 b hb
    · exact Nat.le_trans h78.size (m9 b hb)
  · simp only [List.mem_append] at hb
    rcases hb with hb | hb | hb
    · exact m3 b hb
    · exact q8 b hb
    · exact q9 b hb
def EdPost (D : Nat → Prop) (rb d : Nat) (w : World) (l : List UInt8) (e1 : Ending) (w' : World) : Prop :=
  (∃ (e : Ed) (x : Eh) (l' : List UInt8), l = edB e ++ l' ∧ EdFit e ∧ e.old.high + d ≤ 40 ∧ e.new.high + d ≤ 40 ∧ e1 = .returned (.agg #[.int .u8 e.kind, .slice x.pA e.path.length x.pc, .int .i64 e.at_, .int .i64 e.far, .string e.frm, .string e.to, .slice x.oA e.old.len x.oc, .slice x.nA e.new.len x.nc]) ∧ EdIn (fun b => w.heap.size < b) w' x e ∧ Rdr D rb w' l' d ∧ Side rb w w' ∧ ∃ L, EdO w' x e L ∧ L.Nodup ∧ ∀ b ∈ L, w.heap.size < b) ∨
  (¬ EdAt d l ∧ e1 = oops ∧ Side rb w w')

set_option maxHeartbeats 4000000 in
set_option maxRecDepth 1000000 in
theorem edit_get {D : Nat → Prop} {rb d : Nat} {w : World} {l : List UInt8} (h : Rdr D rb w l d) (hd : d ≤ 40) (hl : l.length ≤ lid) :
    Calls Tryz.prog 93 #[.pointer (some ⟨rb, 0, none⟩)] w (EdPost D rb d w l) := by
  have hrb := h.lt
  have Hoff := hide h.off
  have H := hide h.old
  have hl' : l.length ≤ 1099511627776 := hl
  clear h hl
  rcases l with _ | ⟨x, l1⟩
  · go_enter Tryz.func93, Tryz.ntmps93
    go_wp2_with (go_at_call 89; refine (take_no (H.out.alloc _) (by unfold is63; omega) (by simp)).mono ?_; rintro e w2 ⟨rfl, hs⟩; exact ⟨rfl, .inr ⟨ed_no, rfl, Side.trans (Side.alloc (Side.refl rb w) _) hs⟩⟩)
  · have hx := x.toNat_lt
    have hll : l1.length + 1 ≤ 1099511627776 := hl'
    clear hl'
    go_enter Tryz.func93, Tryz.ntmps93
    go_wp2_with (first
        | (go_at_call 89; refine (take_lit (H.out.alloc _) (by simp)).mono ?_; rintro e w2 ⟨A, c, rfl, hb, hr, hs⟩; obtain ⟨bb, bo, rfl, hx0⟩ := hb.1.at_ (j := 0) (by simp [bytesV]); simp only [bytesV, List.take_succ_cons, List.take_zero, List.map_cons, List.map_nil, List.getElem_cons_zero, Nat.add_zero] at hx0; obtain ⟨ha2, hb2, hc2⟩ := hs.box (N := w.heap.size) (by simp) (by omega); have Hh2 : Hid (Has w2 w.heap.size 8) := hide (Has.of_eq (Has.new _ _ _ _ (by simp)) ha2); have Hr2 : Hid (Rdr (fun b => D b ∧ b < w.heap.size) rb w2 l1 d) := hide hr; have HS2 := hide (Side.trans (Side.alloc (Side.refl rb w) _) hs); clear hb hr hs)
        | (go_at_call 146; (refine (someInt_get (Hr2.out.setNew hrb (a := ⟨w.heap.size, 0, none⟩) (Nat.le_refl _) _) (show _ ≤ 1099511627776 by omega)).mono ?_); rintro e w3 hP; rcases hP with ⟨p, l2, pA, pc, he3, hf3, rfl, hin, hpc1, hpc2, hr, hs, hO⟩ | ⟨hno, rfl, hs⟩; all_goals first
            | exact ⟨rfl, .inr ⟨ed_no0 hno, rfl, Side.trans (Side.setNew HS2.out (a := ⟨w.heap.size, 0, none⟩) (Nat.le_refl _) _) hs⟩⟩
            | (have HS3 := hide (Side.trans (Side.setNew HS2.out (a := ⟨w.heap.size, 0, none⟩) (Nat.le_refl _) _) hs); have HL3 : Hid (Late w.heap.size w2 w3) := hide (Late.side (Late.set (Late.refl w.heap.size w2) (a := ⟨w.heap.size, 0, none⟩) (Nat.le_refl _) _) hrb hs); have HP3 := hide (hin.mono (S' := fun b => w.heap.size < b) (fun b _ hb => Nat.lt_of_lt_of_le (by first | (simp; exact hc2) | exact hc2) hb)); obtain ⟨ha3, hb3, hc3⟩ := hs.box (N := w.heap.size) (by first | (simp; exact hc2) | exact hc2) (by omega); have Hh3 := hide (Has.of_eq (Has.set Hh2.out ⟨w.heap.size, 0, none⟩ _) ha3); have Hr3 := hide hr; have He3 := hide he3; have Hf3 : Hid (IntsFit p) := hide ⟨hf3, Nat.le_trans hpc1 hpc2⟩; have hl2 : l2.length ≤ l1.length := (by rw [he3, List.length_append]; omega); have HQ3 := hide hO; clear hr hs hin he3 hf3 hO))
        | (go_at_call 91; (refine (number_get (Hr3.out.setNew hrb (a := ⟨w.heap.size, 1, none⟩) (Nat.le_refl _) _)).mono ?_); rintro e w4 hP; rcases hP with ⟨at_, l3, he4, hn4, rfl, hr, hs⟩ | ⟨hno, rfl, hs⟩; all_goals first
            | exact ⟨rfl, .inr ⟨by rw [He3.out]; exact ed_no1 Hf3.out hno, rfl, Side.trans (Side.setNew HS3.out (a := ⟨w.heap.size, 1, none⟩) (Nat.le_refl _) _) hs⟩⟩
            | (have HS4 := hide (Side.trans (Side.setNew HS3.out (a := ⟨w.heap.size, 1, none⟩) (Nat.le_refl _) _) hs); have HL4 : Hid (Late w.heap.size w3 w4) := hide (Late.side (Late.set (Late.refl w.heap.size w3) (a := ⟨w.heap.size, 1, none⟩) (Nat.le_refl _) _) hrb hs); have HP4 := hide (HP3.out.late HL4.out); obtain ⟨ha4, hb4, hc4⟩ := hs.box (N := w.heap.size) (by first | (simp; exact hc3) | exact hc3) (by omega); have Hh4 := hide (Has.of_eq (Has.set Hh3.out ⟨w.heap.size, 1, none⟩ _) ha4); have Hr4 := hide hr; have He4 := hide he4; have Hf4 := hide hn4; have hl3 : l3.length ≤ l2.length := (by rw [he4, List.length_append]; omega); clear hr hs he4 hn4))
        | (go_at_call 91; (refine (number_get Hr4.out).mono ?_); rintro e w5 hP; rcases hP with ⟨far, l4, he5, hn5, rfl, hr, hs⟩ | ⟨hno, rfl, hs⟩; all_goals first
            | exact ⟨rfl, .inr ⟨by rw [He3.out, He4.out]; exact ed_no2 Hf3.out Hf4.out hno, rfl, Side.trans HS4.out hs⟩⟩
            | (have HS5 := hide (Side.trans HS4.out hs); have HL5 : Hid (Late w.heap.size w4 w5) := hide (Late.side (Late.refl w.heap.size w4) hrb hs); have HP5 := hide (HP4.out.late HL5.out); obtain ⟨ha5, hb5, hc5⟩ := hs.box (N := w.heap.size) (by first | (simp; exact hc4) | exact hc4) (by omega); have Hh5 := hide (Has.of_eq Hh4.out ha5); have Hr5 := hide hr; have He5 := hide he5; have Hf5 := hide hn5; have hl4 : l4.length ≤ l3.length := (by rw [he5, List.length_append]; omega); clear hr hs he5 hn5))
        | (go_at_call 90; (refine (text_get ((Hr5.out.setNew hrb (a := ⟨w.heap.size, 2, none⟩) (Nat.le_refl _) _).setNew hrb (a := ⟨w.heap.size, 3, none⟩) (Nat.le_refl _) _) (show _ ≤ 9223372036854775807 by omega)).mono ?_); rintro e w6 hP; rcases hP with ⟨frm, l5, he6, hn6, rfl, hr, hs⟩ | ⟨hno, rfl, hs⟩; all_goals first
            | exact ⟨rfl, .inr ⟨by rw [He3.out, He4.out, He5.out]; exact ed_no3 Hf3.out Hf4.out Hf5.out hno, rfl, Side.trans (Side.setNew (Side.setNew HS5.out (a := ⟨w.heap.size, 2, none⟩) (Nat.le_refl _) _) (a := ⟨w.heap.size, 3, none⟩) (Nat.le_refl _) _) hs⟩⟩
            | (have HS6 := hide (Side.trans (Side.setNew (Side.setNew HS5.out (a := ⟨w.heap.size, 2, none⟩) (Nat.le_refl _) _) (a := ⟨w.heap.size, 3, none⟩) (Nat.le_refl _) _) hs); have HL6 : Hid (Late w.heap.size w5 w6) := hide (Late.side (Late.set (Late.set (Late.refl w.heap.size w5) (a := ⟨w.heap.size, 2, none⟩) (Nat.le_refl _) _) (a := ⟨w.heap.size, 3, none⟩) (Nat.le_refl _) _) hrb hs); have HP6 := hide (HP5.out.late HL6.out); obtain ⟨ha6, hb6, hc6⟩ := hs.box (N := w.heap.size) (by first | (simp; exact hc5) | exact hc5) (by omega); have Hh6 := hide (Has.of_eq (Has.set (Has.set Hh5.out ⟨w.heap.size, 2, none⟩ _) ⟨w.heap.size, 3, none⟩ _) ha6); have Hr6 := hide hr; have He6 := hide he6; have Hf6 := hide hn6; have hl5 : l5.length ≤ l4.length := (by rw [he6, List.length_append]; omega); clear hr hs he6 hn6))
        | (go_at_call 90; (refine (text_get Hr6.out (show _ ≤ 9223372036854775807 by omega)).mono ?_); rintro e w7 hP; rcases hP with ⟨tto, l6, he7, hn7, rfl, hr, hs⟩ | ⟨hno, rfl, hs⟩; all_goals first
            | exact ⟨rfl, .inr ⟨by rw [He3.out, He4.out, He5.out, He6.out]; exact ed_no4 Hf3.out Hf4.out Hf5.out Hf6.out hno, rfl, Side.trans HS6.out hs⟩⟩
            | (have HS7 := hide (Side.trans HS6.out hs); have HL7 : Hid (Late w.heap.size w6 w7) := hide (Late.side (Late.refl w.heap.size w6) hrb hs); have HP7 := hide (HP6.out.late HL7.out); obtain ⟨ha7, hb7, hc7⟩ := hs.box (N := w.heap.size) (by first | (simp; exact hc6) | exact hc6) (by omega); have Hh7 := hide (Has.of_eq Hh6.out ha7); have Hr7 := hide hr; have He7 := hide he7; have Hf7 := hide hn7; have hl6 : l6.length ≤ l5.length := (by rw [he7, List.length_append]; omega); clear hr hs he7 hn7))
        | (go_at_call 147; (refine (someNode_get ((Hr7.out.setNew hrb (a := ⟨w.heap.size, 4, none⟩) (Nat.le_refl _) _).setNew hrb (a := ⟨w.heap.size, 5, none⟩) (Nat.le_refl _) _) hd (show _ ≤ 1099511627776 by omega)).mono ?_); rintro e w8 hP; rcases hP with ⟨fo, l7, oA, oc, he8, hf8, hh8, rfl, hin, hoc1, hoc2, hr, hs, hO⟩ | ⟨hno, rfl, hs⟩; all_goals first
            | exact ⟨rfl, .inr ⟨by rw [He3.out, He4.out, He5.out, He6.out, He7.out]; exact ed_no5 Hf3.out Hf4.out Hf5.out Hf6.out Hf7.out hno, rfl, Side.trans (Side.setNew (Side.setNew HS7.out (a := ⟨w.heap.size, 4, none⟩) (Nat.le_refl _) _) (a := ⟨w.heap.size, 5, none⟩) (Nat.le_refl _) _) hs⟩⟩
            | (have HS8 := hide (Side.trans (Side.setNew (Side.setNew HS7.out (a := ⟨w.heap.size, 4, none⟩) (Nat.le_refl _) _) (a := ⟨w.heap.size, 5, none⟩) (Nat.le_refl _) _) hs); have HL8 : Hid (Late w.heap.size w7 w8) := hide (Late.side (Late.set (Late.set (Late.refl w.heap.size w7) (a := ⟨w.heap.size, 4, none⟩) (Nat.le_refl _) _) (a := ⟨w.heap.size, 5, none⟩) (Nat.le_refl _) _) hrb hs); have HP8 := hide (HP7.out.late HL8.out); have HO8 := hide (hin.mono (S' := fun b => w.heap.size < b) (fun b _ hb => Nat.lt_of_lt_of_le (by first | (simp; exact hc7) | exact hc7) hb)); obtain ⟨ha8, hb8, hc8⟩ := hs.box (N := w.heap.size) (by first | (simp; exact hc7) | exact hc7) (by omega); have Hh8 := hide (Has.of_eq (Has.set (Has.set Hh7.out ⟨w.heap.size, 4, none⟩ _) ⟨w.heap.size, 5, none⟩ _) ha8); have Hr8 := hide hr; have He8 := hide he8; have Hf8 : Hid (NodesFit fo) := hide ⟨hf8, Nat.le_trans hoc1 hoc2⟩; have hl7 : l7.length ≤ l6.length := (by rw [he8, List.length_append]; omega); have HQ8 := hide hO; clear hr hs hin he8 hf8 hO))
        | (go_at_call 147; (refine (someNode_get Hr8.out hd (show _ ≤ 1099511627776 by omega)).mono ?_); rintro e w9 hP; rcases hP with ⟨fn, l8, nA, nc, he9, hf9, hh9, rfl, hin, hnc1, hnc2, hr, hs, hO⟩ | ⟨hno, rfl, hs⟩; all_goals first
            | exact ⟨rfl, .inr ⟨by rw [He3.out, He4.out, He5.out, He6.out, He7.out, He8.out]; exact ed_no6 Hf3.out Hf4.out Hf5.out Hf6.out Hf7.out Hf8.out hno, rfl, Side.trans HS8.out hs⟩⟩
            | (have HS9 := hide (Side.trans HS8.out hs); have HL9 : Hid (Late w.heap.size w8 w9) := hide (Late.side (Late.refl w.heap.size w8) hrb hs); have HP9 := hide (HP8.out.late HL9.out); have HO9 := hide (HO8.out.late HL9.out); have HN9 := hide (hin.mono (S' := fun b => w.heap.size < b) (fun b _ hb => Nat.lt_of_lt_of_le (by first | (simp; exact hc8) | exact hc8) hb)); obtain ⟨ha9, hb9, hc9⟩ := hs.box (N := w.heap.size) (by first | (simp; exact hc8) | exact hc8) (by omega); have Hh9 := hide (Has.of_eq Hh8.out ha9); have Hr9 := hide hr; have He9 := hide he9; have Hf9 : Hid (NodesFit fn) := hide ⟨hf9, Nat.le_trans hnc1 hnc2⟩; have HQ9 := hide hO; clear hr hs hin he9 hf9 hO))
    )
    refine bodyPost_ret (v := .agg #[.int .u8 x.toNat, .slice pA p.length pc, .int .i64 at_, .int .i64 far, .string frm, .string tto, .slice oA fo.len oc, .slice nA fn.len nc]) ?_ rfl ?_
    · clear ha2 ha3 ha4 ha5 ha6 ha7 ha8 ha9
      have g0 : ((((w9.setCell ⟨w.heap.size, 6, none⟩ (.slice oA fo.len oc)).setCell ⟨w.heap.size, 7, none⟩ (.slice nA fn.len nc)).setCell ⟨w.heap.size, 0, none⟩ (.int .u8 x.toNat))).cell? ⟨w.heap.size, 0, none⟩ = some (.int .u8 x.toNat) := cell_set_at (n := 8) (Has.set (Has.set Hh9.out ⟨w.heap.size, 6, none⟩ _) ⟨w.heap.size, 7, none⟩ _) (by omega)
      have g1 : (((((w9.setCell ⟨w.heap.size, 6, none⟩ (.slice oA fo.len oc)).setCell ⟨w.heap.size, 7, none⟩ (.slice nA fn.len nc)).setCell ⟨w.heap.size, 0, none⟩ (.int .u8 x.toNat)).setCell ⟨w.heap.size, 1, none⟩ (.slice pA p.length pc))).cell? ⟨w.heap.size, 1, none⟩ = some (.slice pA p.length pc) := cell_set_at (n := 8) (Has.set (Has.set (Has.set Hh9.out ⟨w.heap.size, 6, none⟩ _) ⟨w.heap.size, 7, none⟩ _) ⟨w.heap.size, 0, none⟩ _) (by omega)
      have g2 : ((((((w9.setCell ⟨w.heap.size, 6, none⟩ (.slice oA fo.len oc)).setCell ⟨w.heap.size, 7, none⟩ (.slice nA fn.len nc)).setCell ⟨w.heap.size, 0, none⟩ (.int .u8 x.toNat)).setCell ⟨w.heap.size, 1, none⟩ (.slice pA p.length pc)).setCell ⟨w.heap.size, 2, none⟩ (.int .i64 at_))).cell? ⟨w.heap.size, 2, none⟩ = some (.int .i64 at_) := cell_set_at (n := 8) (Has.set (Has.set (Has.set (Has.set Hh9.out ⟨w.heap.size, 6, none⟩ _) ⟨w.heap.size, 7, none⟩ _) ⟨w.heap.size, 0, none⟩ _) ⟨w.heap.size, 1, none⟩ _) (by omega)
      have g3 : (((((((w9.setCell ⟨w.heap.size, 6, none⟩ (.slice oA fo.len oc)).setCell ⟨w.heap.size, 7, none⟩ (.slice nA fn.len nc)).setCell ⟨w.heap.size, 0, none⟩ (.int .u8 x.toNat)).setCell ⟨w.heap.size, 1, none⟩ (.slice pA p.length pc)).setCell ⟨w.heap.size, 2, none⟩ (.int .i64 at_)).setCell ⟨w.heap.size, 3, none⟩ (.int .i64 far))).cell? ⟨w.heap.size, 3, none⟩ = some (.int .i64 far) := cell_set_at (n := 8) (Has.set (Has.set (Has.set (Has.set (Has.set Hh9.out ⟨w.heap.size, 6, none⟩ _) ⟨w.heap.size, 7, none⟩ _) ⟨w.heap.size, 0, none⟩ _) ⟨w.heap.size, 1, none⟩ _) ⟨w.heap.size, 2, none⟩ _) (by omega)
      have g4 : ((((((((w9.setCell ⟨w.heap.size, 6, none⟩ (.slice oA fo.len oc)).setCell ⟨w.heap.size, 7, none⟩ (.slice nA fn.len nc)).setCell ⟨w.heap.size, 0, none⟩ (.int .u8 x.toNat)).setCell ⟨w.heap.size, 1, none⟩ (.slice pA p.length pc)).setCell ⟨w.heap.size, 2, none⟩ (.int .i64 at_)).setCell ⟨w.heap.size, 3, none⟩ (.int .i64 far)).setCell ⟨w.heap.size, 4, none⟩ (.string frm))).cell? ⟨w.heap.size, 4, none⟩ = some (.string frm) := cell_set_at (n := 8) (Has.set (Has.set (Has.set (Has.set (Has.set (Has.set Hh9.out ⟨w.heap.size, 6, none⟩ _) ⟨w.heap.size, 7, none⟩ _) ⟨w.heap.size, 0, none⟩ _) ⟨w.heap.size, 1, none⟩ _) ⟨w.heap.size, 2, none⟩ _) ⟨w.heap.size, 3, none⟩ _) (by omega)
      have g5 : (((((((((w9.setCell ⟨w.heap.size, 6, none⟩ (.slice oA fo.len oc)).setCell ⟨w.heap.size, 7, none⟩ (.slice nA fn.len nc)).setCell ⟨w.heap.size, 0, none⟩ (.int .u8 x.toNat)).setCell ⟨w.heap.size, 1, none⟩ (.slice pA p.length pc)).setCell ⟨w.heap.size, 2, none⟩ (.int .i64 at_)).setCell ⟨w.heap.size, 3, none⟩ (.int .i64 far)).setCell ⟨w.heap.size, 4, none⟩ (.string frm)).setCell ⟨w.heap.size, 5, none⟩ (.string tto))).cell? ⟨w.heap.size, 5, none⟩ = some (.string tto) := cell_set_at (n := 8) (Has.set (Has.set (Has.set (Has.set (Has.set (Has.set (Has.set Hh9.out ⟨w.heap.size, 6, none⟩ _) ⟨w.heap.size, 7, none⟩ _) ⟨w.heap.size, 0, none⟩ _) ⟨w.heap.size, 1, none⟩ _) ⟨w.heap.size, 2, none⟩ _) ⟨w.heap.size, 3, none⟩ _) ⟨w.heap.size, 4, none⟩ _) (by omega)
      have g6 : ((((((((((w9.setCell ⟨w.heap.size, 6, none⟩ (.slice oA fo.len oc)).setCell ⟨w.heap.size, 7, none⟩ (.slice nA fn.len nc)).setCell ⟨w.heap.size, 0, none⟩ (.int .u8 x.toNat)).setCell ⟨w.heap.size, 1, none⟩ (.slice pA p.length pc)).setCell ⟨w.heap.size, 2, none⟩ (.int .i64 at_)).setCell ⟨w.heap.size, 3, none⟩ (.int .i64 far)).setCell ⟨w.heap.size, 4, none⟩ (.string frm)).setCell ⟨w.heap.size, 5, none⟩ (.string tto)).setCell ⟨w.heap.size, 6, none⟩ (.slice oA fo.len oc))).cell? ⟨w.heap.size, 6, none⟩ = some (.slice oA fo.len oc) := cell_set_at (n := 8) (Has.set (Has.set (Has.set (Has.set (Has.set (Has.set (Has.set (Has.set Hh9.out ⟨w.heap.size, 6, none⟩ _) ⟨w.heap.size, 7, none⟩ _) ⟨w.heap.size, 0, none⟩ _) ⟨w.heap.size, 1, none⟩ _) ⟨w.heap.size, 2, none⟩ _) ⟨w.heap.size, 3, none⟩ _) ⟨w.heap.size, 4, none⟩ _) ⟨w.heap.size, 5, none⟩ _) (by omega)
      have g7 : (((((((((((w9.setCell ⟨w.heap.size, 6, none⟩ (.slice oA fo.len oc)).setCell ⟨w.heap.size, 7, none⟩ (.slice nA fn.len nc)).setCell ⟨w.heap.size, 0, none⟩ (.int .u8 x.toNat)).setCell ⟨w.heap.size, 1, none⟩ (.slice pA p.length pc)).setCell ⟨w.heap.size, 2, none⟩ (.int .i64 at_)).setCell ⟨w.heap.size, 3, none⟩ (.int .i64 far)).setCell ⟨w.heap.size, 4, none⟩ (.string frm)).setCell ⟨w.heap.size, 5, none⟩ (.string tto)).setCell ⟨w.heap.size, 6, none⟩ (.slice oA fo.len oc)).setCell ⟨w.heap.size, 7, none⟩ (.slice nA fn.len nc))).cell? ⟨w.heap.size, 7, none⟩ = some (.slice nA fn.len nc) := cell_set_at (n := 8) (Has.set (Has.set (Has.set (Has.set (Has.set (Has.set (Has.set (Has.set (Has.set Hh9.out ⟨w.heap.size, 6, none⟩ _) ⟨w.heap.size, 7, none⟩ _) ⟨w.heap.size, 0, none⟩ _) ⟨w.heap.size, 1, none⟩ _) ⟨w.heap.size, 2, none⟩ _) ⟨w.heap.size, 3, none⟩ _) ⟨w.heap.size, 4, none⟩ _) ⟨w.heap.size, 5, none⟩ _) ⟨w.heap.size, 6, none⟩ _) (by omega)
      simp only [results, Tryz.results93]
      go_simp
    · have hL : Late w.heap.size w9 ((((((((((w9.setCell ⟨w.heap.size, 6, none⟩ (.slice oA fo.len oc)).setCell ⟨w.heap.size, 7, none⟩ (.slice nA fn.len nc)).setCell ⟨w.heap.size, 0, none⟩ (.int .u8 x.toNat)).setCell ⟨w.heap.size, 1, none⟩ (.slice pA p.length pc)).setCell ⟨w.heap.size, 2, none⟩ (.int .i64 at_)).setCell ⟨w.heap.size, 3, none⟩ (.int .i64 far)).setCell ⟨w.heap.size, 4, none⟩ (.string frm)).setCell ⟨w.heap.size, 5, none⟩ (.string tto)).setCell ⟨w.heap.size, 6, none⟩ (.slice oA fo.len oc)).setCell ⟨w.heap.size, 7, none⟩ (.slice nA fn.len nc)) := (Late.set (Late.set (Late.set (Late.set (Late.set (Late.set (Late.set (Late.set (Late.set (Late.set (Late.refl w.heap.size w9) (a := ⟨w.heap.size, 6, none⟩) (Nat.le_refl _) _) (a := ⟨w.heap.size, 7, none⟩) (Nat.le_refl _) _) (a := ⟨w.heap.size, 0, none⟩) (Nat.le_refl _) _) (a := ⟨w.heap.size, 1, none⟩) (Nat.le_refl _) _) (a := ⟨w.heap.size, 2, none⟩) (Nat.le_refl _) _) (a := ⟨w.heap.size, 3, none⟩) (Nat.le_refl _) _) (a := ⟨w.heap.size, 4, none⟩) (Nat.le_refl _) _) (a := ⟨w.heap.size, 5, none⟩) (Nat.le_refl _) _) (a := ⟨w.heap.size, 6, none⟩) (Nat.le_refl _) _) (a := ⟨w.heap.size, 7, none⟩) (Nat.le_refl _) _)
      refine .inl ⟨⟨x.toNat, p, at_, far, frm, tto, fo, fn⟩, ⟨pA, pc, oA, oc, nA, nc⟩, l8, ?_, ⟨by show x.toNat < 256; omega, Hf3.out, Hf4.out, Hf5.out, Hf6.out, Hf7.out, Hf8.out, Hf9.out⟩, hh8, hh9, rfl, ?_, ?_, ?_, ?_⟩
      · rw [He3.out, He4.out, He5.out, He6.out, He7.out, He8.out, He9.out]
        simp [edB]
      · exact ⟨by show x.toNat < 256; omega, HP9.out.late hL, Hf4.out, Hf5.out, Hf6.out, Hf7.out, HO9.out.late hL, HN9.out.late hL, ⟨hpc1, hpc2⟩, ⟨hoc1, hoc2⟩, ⟨hnc1, hnc2⟩⟩
      · exact Rdr.back ((((((((((Hr9.out.setNew hrb (a := ⟨w.heap.size, 6, none⟩) (Nat.le_refl _) _).setNew hrb (a := ⟨w.heap.size, 7, none⟩) (Nat.le_refl _) _).setNew hrb (a := ⟨w.heap.size, 0, none⟩) (Nat.le_refl _) _).setNew hrb (a := ⟨w.heap.size, 1, none⟩) (Nat.le_refl _) _).setNew hrb (a := ⟨w.heap.size, 2, none⟩) (Nat.le_refl _) _).setNew hrb (a := ⟨w.heap.size, 3, none⟩) (Nat.le_refl _) _).setNew hrb (a := ⟨w.heap.size, 4, none⟩) (Nat.le_refl _) _).setNew hrb (a := ⟨w.heap.size, 5, none⟩) (Nat.le_refl _) _).setNew hrb (a := ⟨w.heap.size, 6, none⟩) (Nat.le_refl _) _).setNew hrb (a := ⟨w.heap.size, 7, none⟩) (Nat.le_refl _) _) Hoff.out
      · exact (Side.setNew (Side.setNew (Side.setNew (Side.setNew (Side.setNew (Side.setNew (Side.setNew (Side.setNew (Side.setNew (Side.setNew HS9.out (a := ⟨w.heap.size, 6, none⟩) (Nat.le_refl _) _) (a := ⟨w.heap.size, 7, none⟩) (Nat.le_refl _) _) (a := ⟨w.heap.size, 0, none⟩) (Nat.le_refl _) _) (a := ⟨w.heap.size, 1, none⟩) (Nat.le_refl _) _) (a := ⟨w.heap.size, 2, none⟩) (Nat.le_refl _) _) (a := ⟨w.heap.size, 3, none⟩) (Nat.le_refl _) _) (a := ⟨w.heap.size, 4, none⟩) (Nat.le_refl _) _) (a := ⟨w.heap.size, 5, none⟩) (Nat.le_refl _) _) (a := ⟨w.heap.size, 6, none⟩) (Nat.le_refl _) _) (a := ⟨w.heap.size, 7, none⟩) (Nat.le_refl _) _)
      · obtain ⟨L3, o3, m3⟩ := HQ3.out
        obtain ⟨L8, o8, m8⟩ := HQ8.out
        obtain ⟨L9, o9, m9⟩ := HQ9.out
        have t37 := HL4.out.trans (HL5.out.trans (HL6.out.trans HL7.out))
        exact ed_done o3 o8 o9 (fun b hb => Nat.lt_of_lt_of_le hc2 (by have := m3 b hb; simpa using this)) (fun b hb => by have := m8 b hb; simpa using this) m9 t37 HL8.out (HL9.out.trans hL) hL hc7


end Go.Proofs.YtfhfkbdaglegpaaGreatDoor
