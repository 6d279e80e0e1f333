/- The writer of bytes, further: texts, rows, nodes, edits, patches. Printed by gen_writ2.py. -/
import Derived.Test.YthaoldnlleilfaaDoorCWrit
import Derived.Test.YthaoldnlleilfaaDoorCBase

set_option linter.unusedVariables false
set_option linter.unusedSimpArgs false

namespace Go.Proofs.YthaoldnlleilfaaDoor
open Go.RowKit

theorem put_n {P : Nat → Prop} {wb : Nat} {w : World} {l news : List UInt8} {b o c n : Nat} (h : Buf P wb w l) (hnn : news.length = n) (hn : ∀ j u, (bytesV news)[j]? = some u → w.cell? ((⟨b, o, none⟩ : Addr).add j) = some u) (hlen : l.length + n ≤ lid) :
    Calls Tryd.prog 39 #[.pointer (some ⟨wb, 0, none⟩), .slice (some ⟨b, o, none⟩) n c] w fun e w' => e = .returned (.tuple #[]) ∧ Buf P wb w' (l ++ news) ∧ Keep P w w' := by
  subst hnn
  exact put_any h hn hlen
theorem u8_at (k : Nat) (hk : k < 256) : (k : Int) = ((UInt8.ofNat k).toNat : Int) := by simp; omega
/-- one byte -/
theorem put_one {P : Nat → Prop} {wb : Nat} {w : World} {l : List UInt8} {k N : Nat} {ci : Int} {e : TypeId} (h : Buf P wb w l) (hN : N = w.heap.size) (hc : ci = (k : Int)) (hk : k < 256) (hlen : l.length + 1 ≤ lid) :
    Calls Tryd.prog 39 #[.pointer (some ⟨wb, 0, none⟩), .slice (some ⟨N, 0, none⟩) 1 1] (w.alloc (.cells #[.int .u8 ci] e)) fun e w' => e = .returned (.tuple #[]) ∧ Buf P wb w' (l ++ [UInt8.ofNat k]) ∧ Keep P w w' := by
  subst hN
  subst hc
  refine (put_any (news := [UInt8.ofNat k]) (h.alloc _) (byte_new _ _ _ _ (u8_at k hk)) (by simpa using hlen)).mono ?_
  rintro e w1 ⟨rfl, hb, hB⟩
  exact ⟨rfl, hb, ((Keep.refl _ _).alloc h.lts _).trans hB⟩
theorem bytes_new (w : World) (s : ByteArray) (e : TypeId) (cap : Nat) (m : Nat × Nat) :
    ∀ j u, (bytesV s.data.toList)[j]? = some u → (w.alloc (.cells (bytesRow s cap) e m)).cell? ((⟨w.heap.size, 0, none⟩ : Addr).add j) = some u := by
  intro j u hu
  have hj : j < s.data.size := by
    have := (List.getElem?_eq_some_iff.1 hu).1
    simpa [bytesV] using this
  rw [Addr.add_lit, Nat.zero_add, World.cell?_alloc_mark, bytesRow_at s cap j hj]
  simp only [bytesV, List.getElem?_map, Option.map_eq_some_iff] at hu
  obtain ⟨a, ha, rfl⟩ := hu
  rw [Array.getElem?_toList, Array.getElem?_eq_getElem hj] at ha
  injection ha with ha
  rw [ha]

set_option maxHeartbeats 1000000 in
set_option maxRecDepth 1000000 in
theorem text_put {P : Nat → Prop} {wb : Nat} {w : World} {l : List UInt8} {s : ByteArray} (h : Buf P wb w l) (hs : s.size ≤ max63) (hlen : l.length + (txtB s).length ≤ lid) :
    Calls Tryd.prog 40 #[.pointer (some ⟨wb, 0, none⟩), .string s] w fun e w' => e = .returned (.tuple #[]) ∧ Buf P wb w' (l ++ txtB s) ∧ Keep P w w' := by
  have H := hide h
  rw [txtB_len] at hlen
  have hcv := fun w' : World => run_bytes_of_string (P := Tryd.prog) w' 9 33 5 s Tryd.underlying9 Tryd.underlying33 Tryd.underlying5
  have hl : s.data.toList.length = s.size := by simp
  have Hl := hide hl
  clear h hl
  go_enter Tryd.func40, Tryd.ntmps40
  go_wp2_with (first
    | (go_at_call 41; refine (number_put H.out (is63_nat hs) (by omega)).mono ?_; rintro e w1 ⟨rfl, hb, hB⟩; have HB1 := hide hb; have HW1 := hide hB; clear hb hB)
    | (go_at_call 39; refine (put_n (news := s.data.toList) (HB1.out.alloc _).drew Hl.out (bytes_new _ s _ _ _) (by rw [List.length_append, num8_len]; omega)).mono ?_; rintro e w2 ⟨rfl, hb, hB⟩; have HB2 := hide hb; have HW2 := hide (HW1.out.trans ((((Keep.refl _ _).alloc HB1.out.lts _).drew).trans hB)); clear hb hB))
  go_end0
  exact ⟨rfl, by have := HB2.out; rwa [List.append_assoc] at this, HW2.out⟩

theorem Buf.keepIn {S P : Nat → Prop} {w w' : World} (hS : ∀ b, S b → P b) (h : Keep P w w') : ∀ b, S b → w'.heap[b]? = w.heap[b]? := fun b hb => h.block b (hS b hb)
theorem flat_take {α : Type} (enc : α → List UInt8) (l : List α) (q : Nat) (hq : q < l.length) : ((l.take (q + 1)).map enc).flatten = ((l.take q).map enc).flatten ++ enc l[q] := by
  rw [List.take_succ_eq_append_getElem hq]
  simp only [List.map_append, List.flatten_append, List.map_cons, List.map_nil, List.flatten_cons, List.flatten_nil, List.append_nil]
theorem flat_part {α : Type} (enc : α → List UInt8) (l : List α) (q : Nat) (hq : q < l.length) : (((l.take q).map enc).flatten).length + (enc l[q]).length ≤ ((l.map enc).flatten).length := by
  have h : ((l.take (q + 1)).map enc).flatten.length ≤ ((l.map enc).flatten).length := by
    conv => rhs; rw [← List.take_append_drop (q + 1) l]
    rw [List.map_append, List.flatten_append, List.length_append]; omega
  rw [flat_take enc l q hq, List.length_append] at h
  exact h

set_option maxHeartbeats 1000000 in
set_option maxRecDepth 1000000 in
theorem rowStr_put {S : Nat → Prop} {P : Nat → Prop} {wb : Nat} {w : World} {l : List UInt8} {A : Option Addr} {c : Nat} {xs : List ByteArray} (h : Buf P wb w l) (hx : StrsIn S w A xs) (hS : ∀ b, S b → P b) (hlen : l.length + (txtsB xs).length ≤ lid) :
    Calls Tryd.prog 42 #[.pointer (some ⟨wb, 0, none⟩), .slice A xs.length c, .func (.func 40) #[.pointer (some ⟨wb, 0, none⟩)] #[]] w fun e w' => e = .returned (.tuple #[]) ∧ Buf P wb w' (l ++ txtsB xs) ∧ Keep P w w' := by
  have H := hide h
  have Hx := hide hx
  have HS := hide hS
  have hxl : xs.length ≤ 9223372036854775807 := hx.2.2
  have Hlen := hide hlen
  have hlen8 : l.length + 8 ≤ lid := by
    simp only [txtsB, List.length_append, num8_len] at hlen
    omega
  clear h hx hS hlen
  go_enter Tryd.func42, Tryd.ntmps42
  go_wp2_with (go_at_call 41; refine (number_put H.out (is63_nat hxl) hlen8).mono ?_; rintro e w1 ⟨rfl, hb, hB⟩; have HB1 := hide hb; have HW1 := hide hB; clear hb hB)
  go_loopw [14, 7] (fun i _ wr => ∃ q : Nat, q ≤ xs.length ∧ i = .int .i64 q ∧ Hid (Buf P wb wr (l ++ (num8 xs.length ++ ((xs.take q).map txtB).flatten))) ∧ Hid (Keep P w wr)) (fun i _ _ => xs.length - (intOf i).toNat)
  case atStart => exact ⟨0, Nat.zero_le _, rfl, hide (by simpa using HB1.out), HW1⟩
  case round =>
    obtain ⟨q, hq, rfl, HB, HW⟩ := hrel
    by_cases hlt : q < xs.length
    · obtain ⟨b, o, rfl, hc⟩ := (Hx.out.keep (Buf.keepIn HS.out HW.out)).1.at_ (j := q) (by simpa using hlt)
      simp only [List.getElem_map] at hc
      have Hone := hide (Hx.out.2.1 xs[q] (List.getElem_mem hlt))
      have Hl1 : Hid ((l ++ (num8 xs.length ++ ((xs.take q).map txtB).flatten)).length + (txtB xs[q]).length ≤ lid) := by
        have h1 := Hlen.out
        have h2 := flat_part txtB xs q hlt
        simp only [txtsB, List.length_append] at h1
        refine hide ?_
        simp only [List.length_append]
        omega
      go_wp2_with (go_at_call 40; refine (text_put HB.out Hone.out Hl1.out).mono ?_; rintro e w2 ⟨rfl, hb, hB⟩; have HB2 := hide hb; have HW2 := hide (HW.out.trans hB); clear hb hB)
      go_roundw
      case rel => exact ⟨q + 1, by omega, by go_num, hide (by rw [flat_take txtB xs q hlt]; have := HB2.out; simpa [List.append_assoc] using this), HW2⟩
      case measure => simp [intOf]; omega
    · go_wp2_with fail
      go_end0
      have hq8 : q = xs.length := by omega
      subst hq8
      exact ⟨rfl, by have := HB.out; rwa [List.take_length] at this, HW.out⟩

set_option maxHeartbeats 1000000 in
set_option maxRecDepth 1000000 in
theorem rowInt_put {S : Nat → Prop} {P : Nat → Prop} {wb : Nat} {w : World} {l : List UInt8} {A : Option Addr} {c : Nat} {xs : List Int} (h : Buf P wb w l) (hx : IntsIn S w A xs) (hS : ∀ b, S b → P b) (hlen : l.length + (pathB xs).length ≤ lid) :
    Calls Tryd.prog 60 #[.pointer (some ⟨wb, 0, none⟩), .slice A xs.length c, .func (.func 41) #[.pointer (some ⟨wb, 0, none⟩)] #[]] w fun e w' => e = .returned (.tuple #[]) ∧ Buf P wb w' (l ++ pathB xs) ∧ Keep P w w' := by
  have H := hide h
  have Hx := hide hx
  have HS := hide hS
  have hxl : xs.length ≤ 9223372036854775807 := hx.2.2
  have Hlen := hide hlen
  have hlen8 : l.length + 8 ≤ lid := by
    simp only [pathB, List.length_append, num8_len] at hlen
    omega
  clear h hx hS hlen
  go_enter Tryd.func60, Tryd.ntmps60
  go_wp2_with (go_at_call 41; refine (number_put H.out (is63_nat hxl) hlen8).mono ?_; rintro e w1 ⟨rfl, hb, hB⟩; have HB1 := hide hb; have HW1 := hide hB; clear hb hB)
  go_loopw [14, 7] (fun i _ wr => ∃ q : Nat, q ≤ xs.length ∧ i = .int .i64 q ∧ Hid (Buf P wb wr (l ++ (num8 xs.length ++ ((xs.take q).map num8).flatten))) ∧ Hid (Keep P w wr)) (fun i _ _ => xs.length - (intOf i).toNat)
  case atStart => exact ⟨0, Nat.zero_le _, rfl, hide (by simpa using HB1.out), HW1⟩
  case round =>
    obtain ⟨q, hq, rfl, HB, HW⟩ := hrel
    by_cases hlt : q < xs.length
    · obtain ⟨b, o, rfl, hc⟩ := (Hx.out.keep (Buf.keepIn HS.out HW.out)).1.at_ (j := q) (by simpa using hlt)
      simp only [List.getElem_map] at hc
      have Hone := hide (Hx.out.2.1 xs[q] (List.getElem_mem hlt))
      have Hl1 : Hid ((l ++ (num8 xs.length ++ ((xs.take q).map num8).flatten)).length + (num8 xs[q]).length ≤ lid) := by
        have h1 := Hlen.out
        have h2 := flat_part num8 xs q hlt
        simp only [pathB, List.length_append] at h1
        refine hide ?_
        simp only [List.length_append]
        omega
      go_wp2_with (go_at_call 41; refine (number_put HB.out Hone.out Hl1.out).mono ?_; rintro e w2 ⟨rfl, hb, hB⟩; have HB2 := hide hb; have HW2 := hide (HW.out.trans hB); clear hb hB)
      go_roundw
      case rel => exact ⟨q + 1, by omega, by go_num, hide (by rw [flat_take num8 xs q hlt]; have := HB2.out; simpa [List.append_assoc] using this), HW2⟩
      case measure => simp [intOf]; omega
    · go_wp2_with fail
      go_end0
      have hq8 : q = xs.length := by omega
      subst hq8
      exact ⟨rfl, by have := HB.out; rwa [List.take_length] at this, HW.out⟩

theorem node_len (k : Nat) (t : ByteArray) (n : Int) (ks : Fo) : (nodeB k t n ks).length = 1 + (txtB t).length + 8 + (nodesB ks).length := by
  simp only [nodeB, List.length_cons, List.length_append, num8_len]; omega

set_option maxHeartbeats 1000000 in
set_option maxRecDepth 1000000 in
theorem node_of {P : Nat → Prop} {wb : Nat} {w : World} {l : List UInt8} {k : Nat} {t : ByteArray} {n : Int} {KA : Option Addr} {ks : Fo} {c : Nat}
    (hrow : ∀ (P' : Nat → Prop) (w' : World) (l' : List UInt8), (∀ b, P b → P' b) → Keep P w w' → Buf P' wb w' l' → l'.length + (nodesB ks).length ≤ lid →
      Calls Tryd.prog 61 #[.pointer (some ⟨wb, 0, none⟩), .slice KA ks.len c, .func (.func 62) #[.pointer (some ⟨wb, 0, none⟩)] #[]] w' fun e w2 => e = .returned (.tuple #[]) ∧ Buf P' wb w2 (l' ++ nodesB ks) ∧ Keep P' w' w2)
    (h : Buf P wb w l) (hk : k < 256) (ht : t.size ≤ max63) (hn : is63 n) (hlen : l.length + (nodeB k t n ks).length ≤ lid) :
    Calls Tryd.prog 62 #[.pointer (some ⟨wb, 0, none⟩), .agg #[.int .u8 k, .string t, .int .i64 n, .slice KA ks.len c]] w fun e w' => e = .returned (.tuple #[]) ∧ Buf P wb w' (l ++ nodeB k t n ks) ∧ Keep P w w' := by
  have Hrow := hide hrow
  have H := hide h
  have Hn := hide hn
  have Hbx : ∀ o, Hid (Buf (fun b => P b ∨ b = w.heap.size) wb (w.alloc o) l) := fun o => hide (h.box o)
  have hsz := h.lt
  rw [node_len] at hlen
  have HK : ∀ o, Hid (Keep P w (w.alloc o)) := fun o => hide ((Keep.refl P w).alloc h.lts o)
  clear hrow h hn
  go_enter Tryd.func62, Tryd.ntmps62
  go_wp2_with (first
    | (go_at_call 39; refine (put_one (Hbx _).out (by simp) rfl hk (by omega)).mono ?_; rintro e w1 ⟨rfl, hb, hB⟩; have HB1 := hide hb; have HW1 := hide hB; obtain ⟨hc1, hf1⟩ := hB.box (N := w.heap.size) (.inr rfl); have hz1 : w.heap.size < w1.heap.size := hb.lts _ (.inr rfl); clear hb hB)
    | (go_at_call 40; refine (text_put HB1.out ht (by simp only [List.length_append, List.length_cons, List.length_nil]; omega)).mono ?_; rintro e w2 ⟨rfl, hb, hB⟩; have HB2 := hide hb; have HW2 := hide (HW1.out.trans hB); obtain ⟨hc2, hf2⟩ := hB.box (N := w.heap.size) (.inr rfl); have hz2 : w.heap.size < w2.heap.size := hb.lts _ (.inr rfl); clear hb hB)
    | (go_at_call 41; refine (number_put HB2.out Hn.out (by simp only [List.length_append, List.length_cons, List.length_nil]; omega)).mono ?_; rintro e w3 ⟨rfl, hb, hB⟩; have HB3 := hide hb; have HW3 := hide (HW2.out.trans hB); obtain ⟨hc3, hf3⟩ := hB.box (N := w.heap.size) (.inr rfl); have hz3 : w.heap.size < w3.heap.size := hb.lts _ (.inr rfl); clear hb hB)
    | (go_at_call 61; refine (Hrow.out _ _ _ (fun b hb => .inl hb) ((HK _).out.trans (HW3.out.mono fun b hb => .inl hb)) HB3.out (by simp only [List.length_append, List.length_cons, List.length_nil, num8_len]; omega)).mono ?_; rintro e w4 ⟨rfl, hb, hB⟩; have HB4 := hide hb; have HW4 := hide (HW3.out.trans hB); clear hb hB))
  go_end0
  refine ⟨rfl, ?_, (HK _).out.trans (HW4.out.mono fun b hb => .inl hb)⟩
  have := HB4.out.mono (P := P) fun b hb => .inl hb
  simpa [nodeB, List.append_assoc] using this

theorem Fo.take_succ {f : Fo} {i k : Nat} {t : ByteArray} {n : Int} {ks r : Fo} (h : f.drop i = .cons k t n ks r) : f.take (i + 1) = (f.take i).app (.cons k t n ks .nil) := by
  induction i generalizing f with
  | zero => cases f with
    | nil => cases h
    | cons => cases h; rfl
  | succ i ih => cases f with
    | nil => cases h
    | cons k' t' n' ks' r' => simp only [Fo.take, Fo.app]; rw [ih h]
theorem foB_next {f : Fo} {i k : Nat} {t : ByteArray} {n : Int} {ks r : Fo} (h : f.drop i = .cons k t n ks r) : foB (f.take (i + 1)) = foB (f.take i) ++ nodeB k t n ks := by
  rw [Fo.take_succ h, foB_app, foB_cons]; simp [foB]
theorem foB_part {f : Fo} {i k : Nat} {t : ByteArray} {n : Int} {ks r : Fo} (h : f.drop i = .cons k t n ks r) : (foB (f.take i)).length + (nodeB k t n ks).length ≤ (foB f).length := by
  have h1 := congrArg (fun x => (foB x).length) (Fo.take_drop i f)
  simp only [foB_app, h, foB_cons, List.length_append] at h1
  omega
theorem Fo.take_all (f : Fo) : f.take f.len = f := by
  have := Fo.take_drop f.len f
  rwa [Fo.drop_len f _ (Nat.le_refl _), Fo.app_nil] at this

set_option maxHeartbeats 2000000 in
set_option maxRecDepth 1000000 in
theorem rowNode_upto (N : Nat) : ∀ (S P : Nat → Prop) (wb : Nat) (w : World) (l : List UInt8) (A : Option Addr) (c : Nat) (f : Fo), f.cnt < N → Buf P wb w l → FoIn S w A f → (∀ b, S b → P b) → f.len ≤ 9223372036854775807 → l.length + (nodesB f).length ≤ lid →
    Calls Tryd.prog 61 #[.pointer (some ⟨wb, 0, none⟩), .slice A f.len c, .func (.func 62) #[.pointer (some ⟨wb, 0, none⟩)] #[]] w fun e w' => e = .returned (.tuple #[]) ∧ Buf P wb w' (l ++ nodesB f) ∧ Keep P w w' := by
  induction N with
  | zero => intro S P wb w l A c f h; omega
  | succ N ih =>
    intro S P wb w l A c f hcnt h hf hS hfl hlen
    have H := hide h
    have Hf := hide hf
    have HS := hide hS
    have Hlen := hide hlen
    have Hih := hide ih
    have hlen8 : l.length + 8 ≤ lid := by
      simp only [nodesB, List.length_append, num8_len] at hlen
      omega
    clear h hf hS hlen ih
    go_enter Tryd.func61, Tryd.ntmps61
    go_wp2_with (go_at_call 41; refine (number_put H.out (is63_nat hfl) hlen8).mono ?_; rintro e w1 ⟨rfl, hb, hB⟩; have HB1 := hide hb; have HW1 := hide hB; clear hb hB)
    go_loopw [14, 7] (fun i _ wr => ∃ q : Nat, q ≤ f.len ∧ i = .int .i64 q ∧ Hid (Buf P wb wr (l ++ (num8 f.len ++ foB (f.take q)))) ∧ Hid (Keep P w wr)) (fun i _ _ => f.len - (intOf i).toNat)
    case atStart => exact ⟨0, Nat.zero_le _, rfl, hide (by have := HB1.out; cases f <;> simpa [Fo.take, foB] using this), HW1⟩
    case round =>
      obtain ⟨q, hq, rfl, HB, HW⟩ := hrel
      by_cases hlt : q < f.len
      · obtain ⟨b, o, KA, c', k, t, n, ks, r, rfl, hd, c0, c1, c2, c3, e1, e2, e3, e4, e5, hks, hc⟩ := (Hf.out.keep (Buf.keepIn HS.out HW.out)).at_ hlt
        have Hd := hide hd
        have He := hide e3
        have Hks := hide hks
        have Hl1 : Hid ((l ++ (num8 f.len ++ foB (f.take q))).length + (nodeB k t n ks).length ≤ lid) := by
          have h1 := Hlen.out
          have h2 := foB_part hd
          simp only [nodesB, List.length_append] at h1
          refine hide ?_
          simp only [List.length_append]
          omega
        clear hd e3 hks
        go_wp2_with (go_at_call 62; refine (node_of (ks := ks) (fun P' w' l' hP hK hB hl => Hih.out S P' wb w' l' KA c' ks (by omega) hB (Hks.out.below (below_alloc _ _) |>.keep (Buf.keepIn HS.out hK)) (fun b hb => hP b (HS.out b hb)) (by omega) hl) (HB.out.alloc _) e1 e2 He.out Hl1.out).mono ?_; rintro e w2 ⟨rfl, hb, hB⟩; have HB2 := hide hb; have HW2 := hide (HW.out.trans (((Keep.refl _ _).alloc HB.out.lts _).trans hB)); clear hb hB)
        go_roundw
        case rel => exact ⟨q + 1, by omega, by go_num, hide (by rw [foB_next Hd.out]; have := HB2.out; simpa [List.append_assoc] using this), HW2⟩
        case measure => simp [intOf]; omega
      · go_wp2_with fail
        go_end0
        have hq8 : q = f.len := by omega
        subst hq8
        exact ⟨rfl, by have := HB.out; rwa [Fo.take_all] at this, HW.out⟩
theorem rowNode_put {S P : Nat → Prop} {wb : Nat} {w : World} {l : List UInt8} {A : Option Addr} {c : Nat} {f : Fo} (h : Buf P wb w l) (hf : FoIn S w A f) (hS : ∀ b, S b → P b) (hfl : f.len ≤ 9223372036854775807) (hlen : l.length + (nodesB f).length ≤ lid) :
    Calls Tryd.prog 61 #[.pointer (some ⟨wb, 0, none⟩), .slice A f.len c, .func (.func 62) #[.pointer (some ⟨wb, 0, none⟩)] #[]] w fun e w' => e = .returned (.tuple #[]) ∧ Buf P wb w' (l ++ nodesB f) ∧ Keep P w w' :=
  rowNode_upto (f.cnt + 1) S P wb w l A c f (by omega) h hf hS hfl hlen

end Go.Proofs.YthaoldnlleilfaaDoor

namespace Go.Proofs.YthaoldnlleilfaaDoor
open Go.RowKit

theorem edB_len (e : Ed) : (edB e).length = 1 + (pathB e.path).length + 8 + 8 + (txtB e.frm).length + (txtB e.to).length + (nodesB e.old).length + (nodesB e.new).length := by
  simp only [edB, List.length_cons, List.length_append, num8_len]; omega

set_option maxHeartbeats 2000000 in
set_option maxRecDepth 1000000 in
theorem edit_put {S P : Nat → Prop} {wb : Nat} {w : World} {l : List UInt8} {x : Eh} {e : Ed} (h : Buf P wb w l) (he : EdIn S w x e) (hS : ∀ b, S b → P b) (hlen : l.length + (edB e).length ≤ lid) :
    Calls Tryd.prog 43 #[.pointer (some ⟨wb, 0, none⟩), .agg #[.int .u8 e.kind, .slice x.pA e.path.length x.pc, .int .i64 e.at_, .int .i64 e.far, .string e.frm, .string e.to, .slice x.oA e.old.len x.oc, .slice x.nA e.new.len x.nc]] w fun e1 w' => e1 = .returned (.tuple #[]) ∧ Buf P wb w' (l ++ edB e) ∧ Keep P w w' := by
  have H := hide h
  have HS := hide hS
  have Hpath := hide he.path
  have hk := he.kind
  have Hat : Hid (is63 e.at_) := hide he.at_
  have Hfar : Hid (is63 e.far) := hide he.far
  have hfrm := he.frm
  have hto := he.to
  have Hold := hide he.old
  have Hnew := hide he.new
  have ho := Nat.le_trans he.oc.1 he.oc.2
  have hn := Nat.le_trans he.nc.1 he.nc.2
  have Hbx : ∀ o, Hid (Buf (fun b => P b ∨ b = w.heap.size) wb (w.alloc o) l) := fun o => hide (h.box o)
  have hsz := h.lt
  rw [edB_len] at hlen
  have HK : ∀ o, Hid (Keep P w (w.alloc o)) := fun o => hide ((Keep.refl P w).alloc h.lts o)
  clear h hS he
  go_enter Tryd.func43, Tryd.ntmps43
  go_wp2_with (first
    | (go_at_call 39; (with_reducible refine (put_one (Hbx _).out (by simp) rfl hk (by omega)).mono ?_); rintro e w1 ⟨rfl, hb, hB⟩; have HB1 := hide hb; have HW1 := hide (hB); have HK1 := hide ((HK _).out.trans (Keep.mono (P := P) (hB) fun b hb => .inl hb)); obtain ⟨hc1, hf1⟩ := hB.box (N := w.heap.size) (.inr rfl); have hz1 : w.heap.size < w1.heap.size := hb.lts _ (.inr rfl); clear hb hB)
    | (go_at_call 60; (with_reducible refine (rowInt_put HB1.out (Hpath.out.keep (Buf.keepIn HS.out HK1.out)) (fun b hb => .inl (HS.out b hb)) (by simp only [List.length_append, List.length_cons, List.length_nil, num8_len]; omega)).mono ?_); rintro e w2 ⟨rfl, hb, hB⟩; have HB2 := hide hb; have HW2 := hide (HW1.out.trans hB); have HK2 := hide ((HK _).out.trans (Keep.mono (P := P) (HW1.out.trans hB) fun b hb => .inl hb)); obtain ⟨hc2, hf2⟩ := hB.box (N := w.heap.size) (.inr rfl); have hz2 : w.heap.size < w2.heap.size := hb.lts _ (.inr rfl); clear hb hB)
    | (go_at_call 41; (with_reducible refine (number_put HB2.out Hat.out (by simp only [List.length_append, List.length_cons, List.length_nil, num8_len]; omega)).mono ?_); rintro e w3 ⟨rfl, hb, hB⟩; have HB3 := hide hb; have HW3 := hide (HW2.out.trans hB); have HK3 := hide ((HK _).out.trans (Keep.mono (P := P) (HW2.out.trans hB) fun b hb => .inl hb)); obtain ⟨hc3, hf3⟩ := hB.box (N := w.heap.size) (.inr rfl); have hz3 : w.heap.size < w3.heap.size := hb.lts _ (.inr rfl); clear hb hB)
    | (go_at_call 41; (with_reducible refine (number_put HB3.out Hfar.out (by simp only [List.length_append, List.length_cons, List.length_nil, num8_len]; omega)).mono ?_); rintro e w4 ⟨rfl, hb, hB⟩; have HB4 := hide hb; have HW4 := hide (HW3.out.trans hB); have HK4 := hide ((HK _).out.trans (Keep.mono (P := P) (HW3.out.trans hB) fun b hb => .inl hb)); obtain ⟨hc4, hf4⟩ := hB.box (N := w.heap.size) (.inr rfl); have hz4 : w.heap.size < w4.heap.size := hb.lts _ (.inr rfl); clear hb hB)
    | (go_at_call 40; (with_reducible refine (text_put HB4.out hfrm (by simp only [List.length_append, List.length_cons, List.length_nil, num8_len]; omega)).mono ?_); rintro e w5 ⟨rfl, hb, hB⟩; have HB5 := hide hb; have HW5 := hide (HW4.out.trans hB); have HK5 := hide ((HK _).out.trans (Keep.mono (P := P) (HW4.out.trans hB) fun b hb => .inl hb)); obtain ⟨hc5, hf5⟩ := hB.box (N := w.heap.size) (.inr rfl); have hz5 : w.heap.size < w5.heap.size := hb.lts _ (.inr rfl); clear hb hB)
    | (go_at_call 40; (with_reducible refine (text_put HB5.out hto (by simp only [List.length_append, List.length_cons, List.length_nil, num8_len]; omega)).mono ?_); rintro e w6 ⟨rfl, hb, hB⟩; have HB6 := hide hb; have HW6 := hide (HW5.out.trans hB); have HK6 := hide ((HK _).out.trans (Keep.mono (P := P) (HW5.out.trans hB) fun b hb => .inl hb)); obtain ⟨hc6, hf6⟩ := hB.box (N := w.heap.size) (.inr rfl); have hz6 : w.heap.size < w6.heap.size := hb.lts _ (.inr rfl); clear hb hB)
    | (go_at_call 61; (with_reducible refine (rowNode_put HB6.out (Hold.out.keep (Buf.keepIn HS.out HK6.out)) (fun b hb => .inl (HS.out b hb)) ho (by simp only [List.length_append, List.length_cons, List.length_nil, num8_len]; omega)).mono ?_); rintro e w7 ⟨rfl, hb, hB⟩; have HB7 := hide hb; have HW7 := hide (HW6.out.trans hB); have HK7 := hide ((HK _).out.trans (Keep.mono (P := P) (HW6.out.trans hB) fun b hb => .inl hb)); obtain ⟨hc7, hf7⟩ := hB.box (N := w.heap.size) (.inr rfl); have hz7 : w.heap.size < w7.heap.size := hb.lts _ (.inr rfl); clear hb hB)
    | (go_at_call 61; (with_reducible refine (rowNode_put HB7.out (Hnew.out.keep (Buf.keepIn HS.out HK7.out)) (fun b hb => .inl (HS.out b hb)) hn (by simp only [List.length_append, List.length_cons, List.length_nil, num8_len]; omega)).mono ?_); rintro e w8 ⟨rfl, hb, hB⟩; have HB8 := hide hb; have HW8 := hide (HW7.out.trans hB); have HK8 := hide ((HK _).out.trans (Keep.mono (P := P) (HW7.out.trans hB) fun b hb => .inl hb)); obtain ⟨hc8, hf8⟩ := hB.box (N := w.heap.size) (.inr rfl); have hz8 : w.heap.size < w8.heap.size := hb.lts _ (.inr rfl); clear hb hB))
  go_end0
  refine ⟨rfl, ?_, HK8.out⟩
  have := HB8.out.mono (P := P) fun b hb => .inl hb
  simpa [edB, List.append_assoc] using this

set_option maxHeartbeats 2000000 in
set_option maxRecDepth 1000000 in
theorem patch_put3 {S P : Nat → Prop} {wb : Nat} {w : World} {l : List UInt8} {x : Ph} {p : Pt} (h : Buf P wb w l) (hp : PtIn S w x p) (hS : ∀ b, S b → P b) (hlen : l.length + (UInt8.ofNat 3 :: (txtB p.file ++ (num8 p.hunk.at_ ++ (txtsB p.hunk.old ++ txtsB p.hunk.new)))).length ≤ lid) :
    Calls Tryd.prog 20 #[.pointer (some ⟨wb, 0, none⟩), .agg #[.int .u8 3, .string p.file, .string p.text, .int .i64 p.hunk.at_, .slice x.h.oA p.hunk.old.length x.h.oc, .slice x.h.nA p.hunk.new.length x.h.nc, .int .u8 p.edit.kind, .slice x.e.pA p.edit.path.length x.e.pc, .int .i64 p.edit.at_, .int .i64 p.edit.far, .string p.edit.frm, .string p.edit.to, .slice x.e.oA p.edit.old.len x.e.oc, .slice x.e.nA p.edit.new.len x.e.nc]] w fun e1 w' => e1 = .returned (.tuple #[]) ∧ Buf P wb w' (l ++ UInt8.ofNat 3 :: (txtB p.file ++ (num8 p.hunk.at_ ++ (txtsB p.hunk.old ++ txtsB p.hunk.new)))) ∧ Keep P w w' := by
  have H := hide h
  have HS := hide hS
  have Hp := hide hp
  have hk : 3 < 256 := by omega
  have Hat : Hid (is63 p.hunk.at_) := hide hp.hunk.at_
  have hfile := hp.file
  have htext := hp.text
  have Hbx : ∀ o, Hid (Buf (fun b => P b ∨ b = w.heap.size) wb (w.alloc o) l) := fun o => hide (h.box o)
  have hsz := h.lt
  simp only [List.length_append, List.length_cons, num8_len] at hlen
  have HK : ∀ o, Hid (Keep P w (w.alloc o)) := fun o => hide ((Keep.refl P w).alloc h.lts o)
  clear h hS hp
  go_enter Tryd.func20, Tryd.ntmps20
  go_wp2_with (first
    | (go_at_call 39; (with_reducible refine (put_one (k := 3) (Hbx _).out (by simp) (by simp) hk (by omega)).mono ?_); rintro e w1 ⟨rfl, hb, hB⟩; have HB1 := hide hb; have HW1 := hide (hB); have HK1 := hide ((HK _).out.trans (Keep.mono (P := P) (hB) fun b hb => .inl hb)); obtain ⟨hc1, hf1⟩ := hB.box (N := w.heap.size) (.inr rfl); have hz1 : w.heap.size < w1.heap.size := hb.lts _ (.inr rfl); clear hb hB)
    | (go_at_call 40; (with_reducible refine (text_put HB1.out hfile (by simp only [List.length_append, List.length_cons, List.length_nil, num8_len]; omega)).mono ?_); rintro e w2 ⟨rfl, hb, hB⟩; have HB2 := hide hb; have HW2 := hide (HW1.out.trans hB); have HK2 := hide ((HK _).out.trans (Keep.mono (P := P) (HW1.out.trans hB) fun b hb => .inl hb)); obtain ⟨hc2, hf2⟩ := hB.box (N := w.heap.size) (.inr rfl); have hz2 : w.heap.size < w2.heap.size := hb.lts _ (.inr rfl); clear hb hB)
    | (go_at_call 41; (with_reducible refine (number_put HB2.out Hat.out (by simp only [List.length_append, List.length_cons, List.length_nil, num8_len]; omega)).mono ?_); rintro e w3 ⟨rfl, hb, hB⟩; have HB3 := hide hb; have HW3 := hide (HW2.out.trans hB); have HK3 := hide ((HK _).out.trans (Keep.mono (P := P) (HW2.out.trans hB) fun b hb => .inl hb)); obtain ⟨hc3, hf3⟩ := hB.box (N := w.heap.size) (.inr rfl); have hz3 : w.heap.size < w3.heap.size := hb.lts _ (.inr rfl); clear hb hB)
    | (go_at_call 42; (with_reducible refine (rowStr_put HB3.out (Hp.out.hunk.old.keep (Buf.keepIn HS.out HK3.out)) (fun b hb => .inl (HS.out b hb)) (by simp only [List.length_append, List.length_cons, List.length_nil, num8_len]; omega)).mono ?_); rintro e w4 ⟨rfl, hb, hB⟩; have HB4 := hide hb; have HW4 := hide (HW3.out.trans hB); have HK4 := hide ((HK _).out.trans (Keep.mono (P := P) (HW3.out.trans hB) fun b hb => .inl hb)); obtain ⟨hc4, hf4⟩ := hB.box (N := w.heap.size) (.inr rfl); have hz4 : w.heap.size < w4.heap.size := hb.lts _ (.inr rfl); clear hb hB)
    | (go_at_call 42; (with_reducible refine (rowStr_put HB4.out (Hp.out.hunk.new.keep (Buf.keepIn HS.out HK4.out)) (fun b hb => .inl (HS.out b hb)) (by simp only [List.length_append, List.length_cons, List.length_nil, num8_len]; omega)).mono ?_); rintro e w5 ⟨rfl, hb, hB⟩; have HB5 := hide hb; have HW5 := hide (HW4.out.trans hB); have HK5 := hide ((HK _).out.trans (Keep.mono (P := P) (HW4.out.trans hB) fun b hb => .inl hb)); obtain ⟨hc5, hf5⟩ := hB.box (N := w.heap.size) (.inr rfl); have hz5 : w.heap.size < w5.heap.size := hb.lts _ (.inr rfl); clear hb hB))
  go_end0
  refine ⟨rfl, ?_, HK5.out⟩
  have := HB5.out.mono (P := P) fun b hb => .inl hb
  simpa [List.append_assoc] using this

set_option maxHeartbeats 2000000 in
set_option maxRecDepth 1000000 in
theorem patch_put4 {S P : Nat → Prop} {wb : Nat} {w : World} {l : List UInt8} {x : Ph} {p : Pt} (h : Buf P wb w l) (hp : PtIn S w x p) (hS : ∀ b, S b → P b) (hlen : l.length + (UInt8.ofNat 4 :: (txtB p.file ++ edB p.edit)).length ≤ lid) :
    Calls Tryd.prog 20 #[.pointer (some ⟨wb, 0, none⟩), .agg #[.int .u8 4, .string p.file, .string p.text, .int .i64 p.hunk.at_, .slice x.h.oA p.hunk.old.length x.h.oc, .slice x.h.nA p.hunk.new.length x.h.nc, .int .u8 p.edit.kind, .slice x.e.pA p.edit.path.length x.e.pc, .int .i64 p.edit.at_, .int .i64 p.edit.far, .string p.edit.frm, .string p.edit.to, .slice x.e.oA p.edit.old.len x.e.oc, .slice x.e.nA p.edit.new.len x.e.nc]] w fun e1 w' => e1 = .returned (.tuple #[]) ∧ Buf P wb w' (l ++ UInt8.ofNat 4 :: (txtB p.file ++ edB p.edit)) ∧ Keep P w w' := by
  have H := hide h
  have HS := hide hS
  have Hp := hide hp
  have hk : 4 < 256 := by omega
  have Hat : Hid (is63 p.hunk.at_) := hide hp.hunk.at_
  have hfile := hp.file
  have htext := hp.text
  have Hbx : ∀ o, Hid (Buf (fun b => P b ∨ b = w.heap.size) wb (w.alloc o) l) := fun o => hide (h.box o)
  have hsz := h.lt
  simp only [List.length_append, List.length_cons, num8_len] at hlen
  have HK : ∀ o, Hid (Keep P w (w.alloc o)) := fun o => hide ((Keep.refl P w).alloc h.lts o)
  clear h hS hp
  go_enter Tryd.func20, Tryd.ntmps20
  go_wp2_with (first
    | (go_at_call 39; (with_reducible refine (put_one (k := 4) (Hbx _).out (by simp) (by simp) hk (by omega)).mono ?_); rintro e w1 ⟨rfl, hb, hB⟩; have HB1 := hide hb; have HW1 := hide (hB); have HK1 := hide ((HK _).out.trans (Keep.mono (P := P) (hB) fun b hb => .inl hb)); obtain ⟨hc1, hf1⟩ := hB.box (N := w.heap.size) (.inr rfl); have hz1 : w.heap.size < w1.heap.size := hb.lts _ (.inr rfl); clear hb hB)
    | (go_at_call 40; (with_reducible refine (text_put HB1.out hfile (by simp only [List.length_append, List.length_cons, List.length_nil, num8_len]; omega)).mono ?_); rintro e w2 ⟨rfl, hb, hB⟩; have HB2 := hide hb; have HW2 := hide (HW1.out.trans hB); have HK2 := hide ((HK _).out.trans (Keep.mono (P := P) (HW1.out.trans hB) fun b hb => .inl hb)); obtain ⟨hc2, hf2⟩ := hB.box (N := w.heap.size) (.inr rfl); have hz2 : w.heap.size < w2.heap.size := hb.lts _ (.inr rfl); clear hb hB)
    | (go_at_call 43; (with_reducible refine (edit_put HB2.out (Hp.out.edit.keep (Buf.keepIn HS.out HK2.out)) (fun b hb => .inl (HS.out b hb)) (by simp only [List.length_append, List.length_cons, List.length_nil, num8_len]; omega)).mono ?_); rintro e w3 ⟨rfl, hb, hB⟩; have HB3 := hide hb; have HW3 := hide (HW2.out.trans hB); have HK3 := hide ((HK _).out.trans (Keep.mono (P := P) (HW2.out.trans hB) fun b hb => .inl hb)); obtain ⟨hc3, hf3⟩ := hB.box (N := w.heap.size) (.inr rfl); have hz3 : w.heap.size < w3.heap.size := hb.lts _ (.inr rfl); clear hb hB))
  go_end0
  refine ⟨rfl, ?_, HK3.out⟩
  have := HB3.out.mono (P := P) fun b hb => .inl hb
  simpa [List.append_assoc] using this

set_option maxHeartbeats 2000000 in
set_option maxRecDepth 1000000 in
theorem patch_putT {S P : Nat → Prop} {wb : Nat} {w : World} {l : List UInt8} {x : Ph} {p : Pt} (h : Buf P wb w l) (hp : PtIn S w x p) (hS : ∀ b, S b → P b) (h3 : ¬ (p.kind : Int) = 3) (h4 : ¬ (p.kind : Int) = 4) (hlen : l.length + (UInt8.ofNat p.kind :: (txtB p.file ++ txtB p.text)).length ≤ lid) :
    Calls Tryd.prog 20 #[.pointer (some ⟨wb, 0, none⟩), .agg #[.int .u8 p.kind, .string p.file, .string p.text, .int .i64 p.hunk.at_, .slice x.h.oA p.hunk.old.length x.h.oc, .slice x.h.nA p.hunk.new.length x.h.nc, .int .u8 p.edit.kind, .slice x.e.pA p.edit.path.length x.e.pc, .int .i64 p.edit.at_, .int .i64 p.edit.far, .string p.edit.frm, .string p.edit.to, .slice x.e.oA p.edit.old.len x.e.oc, .slice x.e.nA p.edit.new.len x.e.nc]] w fun e1 w' => e1 = .returned (.tuple #[]) ∧ Buf P wb w' (l ++ UInt8.ofNat p.kind :: (txtB p.file ++ txtB p.text)) ∧ Keep P w w' := by
  have H := hide h
  have HS := hide hS
  have Hp := hide hp
  have hk : p.kind < 256 := by exact hp.kind
  have Hat : Hid (is63 p.hunk.at_) := hide hp.hunk.at_
  have hfile := hp.file
  have htext := hp.text
  have Hbx : ∀ o, Hid (Buf (fun b => P b ∨ b = w.heap.size) wb (w.alloc o) l) := fun o => hide (h.box o)
  have hsz := h.lt
  simp only [List.length_append, List.length_cons, num8_len] at hlen
  have HK : ∀ o, Hid (Keep P w (w.alloc o)) := fun o => hide ((Keep.refl P w).alloc h.lts o)
  clear h hS hp
  go_enter Tryd.func20, Tryd.ntmps20
  go_wp2_with (first
    | (go_at_call 39; (with_reducible refine (put_one (k := p.kind) (Hbx _).out (by simp) (by simp) hk (by omega)).mono ?_); rintro e w1 ⟨rfl, hb, hB⟩; have HB1 := hide hb; have HW1 := hide (hB); have HK1 := hide ((HK _).out.trans (Keep.mono (P := P) (hB) fun b hb => .inl hb)); obtain ⟨hc1, hf1⟩ := hB.box (N := w.heap.size) (.inr rfl); have hz1 : w.heap.size < w1.heap.size := hb.lts _ (.inr rfl); clear hb hB)
    | (go_at_call 40; (with_reducible refine (text_put HB1.out hfile (by simp only [List.length_append, List.length_cons, List.length_nil, num8_len]; omega)).mono ?_); rintro e w2 ⟨rfl, hb, hB⟩; have HB2 := hide hb; have HW2 := hide (HW1.out.trans hB); have HK2 := hide ((HK _).out.trans (Keep.mono (P := P) (HW1.out.trans hB) fun b hb => .inl hb)); obtain ⟨hc2, hf2⟩ := hB.box (N := w.heap.size) (.inr rfl); have hz2 : w.heap.size < w2.heap.size := hb.lts _ (.inr rfl); clear hb hB)
    | (go_at_call 40; (with_reducible refine (text_put HB2.out htext (by simp only [List.length_append, List.length_cons, List.length_nil, num8_len]; omega)).mono ?_); rintro e w3 ⟨rfl, hb, hB⟩; have HB3 := hide hb; have HW3 := hide (HW2.out.trans hB); have HK3 := hide ((HK _).out.trans (Keep.mono (P := P) (HW2.out.trans hB) fun b hb => .inl hb)); obtain ⟨hc3, hf3⟩ := hB.box (N := w.heap.size) (.inr rfl); have hz3 : w.heap.size < w3.heap.size := hb.lts _ (.inr rfl); clear hb hB))
  go_end0
  refine ⟨rfl, ?_, HK3.out⟩
  have := HB3.out.mono (P := P) fun b hb => .inl hb
  simpa [List.append_assoc] using this

theorem patch_put {S P : Nat → Prop} {wb : Nat} {w : World} {l : List UInt8} {x : Ph} {p : Pt} (h : Buf P wb w l) (hp : PtIn S w x p) (hS : ∀ b, S b → P b) (hlen : l.length + (ptB p).length ≤ lid) :
    Calls Tryd.prog 20 #[.pointer (some ⟨wb, 0, none⟩), .agg #[.int .u8 p.kind, .string p.file, .string p.text, .int .i64 p.hunk.at_, .slice x.h.oA p.hunk.old.length x.h.oc, .slice x.h.nA p.hunk.new.length x.h.nc, .int .u8 p.edit.kind, .slice x.e.pA p.edit.path.length x.e.pc, .int .i64 p.edit.at_, .int .i64 p.edit.far, .string p.edit.frm, .string p.edit.to, .slice x.e.oA p.edit.old.len x.e.oc, .slice x.e.nA p.edit.new.len x.e.nc]] w fun e1 w' => e1 = .returned (.tuple #[]) ∧ Buf P wb w' (l ++ ptB p) ∧ Keep P w w' := by
  by_cases h3 : p.kind = 3
  · have he : ptB p = UInt8.ofNat 3 :: (txtB p.file ++ (num8 p.hunk.at_ ++ (txtsB p.hunk.old ++ txtsB p.hunk.new))) := by unfold ptB; rw [if_pos h3, h3]
    rw [he] at hlen ⊢
    rw [h3]
    exact patch_put3 h hp hS hlen
  · by_cases h4 : p.kind = 4
    · have he : ptB p = UInt8.ofNat 4 :: (txtB p.file ++ edB p.edit) := by unfold ptB; rw [if_neg h3, if_pos h4, h4]
      rw [he] at hlen ⊢
      rw [h4]
      exact patch_put4 h hp hS hlen
    · have he : ptB p = UInt8.ofNat p.kind :: (txtB p.file ++ txtB p.text) := by unfold ptB; rw [if_neg h3, if_neg h4]
      rw [he] at hlen ⊢
      exact patch_putT h hp hS (by omega) (by omega) hlen

end Go.Proofs.YthaoldnlleilfaaDoor
