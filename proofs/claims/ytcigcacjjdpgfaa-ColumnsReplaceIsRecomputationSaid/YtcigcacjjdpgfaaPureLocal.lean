import Derived.Test.YtcigcacjjdpgfaaPureTok
import Derived.Test.YtcigcacjjdpgfaaHandG3
/- The columns of parts of a token sequence are the parts of its columns; replacing them is computing them anew. Plain Lean. -/
namespace Go.Proofs.Ytcigcacjjdpgfaa.PA
open Go.RowKit Go.Proofs.YtcigcacjjdpgfaaW.PrintWords Go.Proofs.YtcigcacjjdpgfaaW.PrintLast Go.Proofs.YtcigcacjjdpgfaaW.PrintMore Go.Proofs.Ytcigcacjjdpgfaa.Hand
set_option linter.unusedVariables false
set_option linter.unusedSimpArgs false
theorem confAt_get {conf : List (List S53)} {j : Nat} (h : j < conf.length) : confAt conf j = conf[j] := by
  unfold confAt
  rw [if_neg (by omega), List.getD_eq_getElem?_getD, List.getElem?_eq_getElem h]
  rfl
theorem zipBad {n : Int} {kinds : List Int} {conf : List (List S53)} (hl : conf.length = kinds.length) : badFrom n conf kinds 0 = false ↔ ∀ p ∈ kinds.zip conf, badTok n p.1 p.2 = false := by
  constructor
  · intro h p hp
    obtain ⟨j, hj, rfl⟩ := List.getElem_of_mem hp
    have hj1 : j < kinds.length := by simp at hj; omega
    have := PA.badFrom_at h j hj1
    rw [Nat.zero_add, confAt_get (by omega)] at this
    simpa using this
  · intro h
    refine badFrom_no fun j hj => ?_
    rw [Nat.zero_add, confAt_get (by omega)]
    exact h (kinds[j], conf[j]'(by omega)) (by
      rw [show (kinds[j], conf[j]'(by omega)) = (kinds.zip conf)[j]'(by simp; omega) by simp]
      exact List.getElem_mem _)
theorem zipCols {kinds : List Int} {conf : List (List S53)} (hl : conf.length = kinds.length) (ins del : List Int) (rep : List (List Int)) (unk : Int) :
    kinds.mapIdx (fun i k => colT k (confAt conf i) ins del rep unk) = (kinds.zip conf).map (fun p => colT p.1 p.2 ins del rep unk) := by
  refine List.ext_getElem (by simp; omega) fun j h1 h2 => ?_
  have hj : j < kinds.length := by simpa using h1
  simp only [List.getElem_mapIdx, List.getElem_map, List.getElem_zip]
  rw [confAt_get (by omega)]
section
variable {ins del : List Int} {rep : List (List Int)} {sw unk : Int}
theorem ofT_zip {kinds : List Int} {conf : List (List S53)} (hp : pricesB ins del rep sw unk = true) (hl : conf.length = kinds.length) (hb : ∀ p ∈ kinds.zip conf, badTok ins.length p.1 p.2 = false) (hn : kinds.length ≤ 60) :
    ofT kinds conf ins del rep sw unk = ((kinds.zip conf).map (fun p => colT p.1 p.2 ins del rep unk), ins, sw, 0) := by
  rw [ofT_some hp (.inr hl) ((zipBad hl).2 hb) hn, zipCols hl]
variable {kinds : List Int} {conf : List (List S53)} (hl : conf.length = kinds.length) (h : (ofT kinds conf ins del rep sw unk).2.2.2 = 0)
include hl h
theorem ofT_whole : ofT kinds conf ins del rep sw unk = ((kinds.zip conf).map (fun p => colT p.1 p.2 ins del rep unk), ins, sw, 0) ∧ pricesB ins del rep sw unk = true ∧ (∀ p ∈ kinds.zip conf, badTok ins.length p.1 p.2 = false) ∧ kinds.length ≤ 60 := by
  obtain ⟨h1, h2, h3, h4, h5⟩ := ofT_zero h
  exact ⟨by rw [h5, zipCols hl], h1, (zipBad hl).1 h3, h4⟩
theorem ofT_len : (ofT kinds conf ins del rep sw unk).1.length = kinds.length := by
  rw [(ofT_whole hl h).1]
  simp [hl]
theorem ofT_take (k : Nat) : ofT (kinds.take k) (conf.take k) ins del rep sw unk = ((ofT kinds conf ins del rep sw unk).1.take k, ins, sw, 0) := by
  obtain ⟨e, h1, h2, h3⟩ := ofT_whole hl h
  have hz : (kinds.take k).zip (conf.take k) = (kinds.zip conf).take k := by simp only [List.zip, List.take_zipWith]
  rw [ofT_zip h1 (by simp [hl]) (by rw [hz]; exact fun p hp => h2 p (List.mem_of_mem_take hp)) (by simp; omega), hz, e, List.map_take]
theorem ofT_drop (k : Nat) : ofT (kinds.drop k) (conf.drop k) ins del rep sw unk = ((ofT kinds conf ins del rep sw unk).1.drop k, ins, sw, 0) := by
  obtain ⟨e, h1, h2, h3⟩ := ofT_whole hl h
  have hz : (kinds.drop k).zip (conf.drop k) = (kinds.zip conf).drop k := by simp only [List.zip, List.drop_zipWith]
  rw [ofT_zip h1 (by simp [hl]) (by rw [hz]; exact fun p hp => h2 p (List.mem_of_mem_drop hp)) (by simp; omega), hz, e, List.map_drop]
theorem ofT_mid (i k : Nat) : ofT ((kinds.drop i).take k) ((conf.drop i).take k) ins del rep sw unk = (((ofT kinds conf ins del rep sw unk).1.drop i).take k, ins, sw, 0) := by
  have e := ofT_drop hl h i
  have := ofT_take (kinds := kinds.drop i) (conf := conf.drop i) (ins := ins) (del := del) (rep := rep) (sw := sw) (unk := unk) (by simp [hl]) (by rw [e]) k
  rw [this, e]
theorem ofT_cut (i k : Nat) (hik : i ≤ k) : ofT (kinds.take i ++ kinds.drop k) (conf.take i ++ conf.drop k) ins del rep sw unk = ((ofT kinds conf ins del rep sw unk).1.take i ++ (ofT kinds conf ins del rep sw unk).1.drop k, ins, sw, 0) := by
  obtain ⟨e, h1, h2, h3⟩ := ofT_whole hl h
  have hz : (kinds.take i ++ kinds.drop k).zip (conf.take i ++ conf.drop k) = (kinds.zip conf).take i ++ (kinds.zip conf).drop k := by
    simp only [List.zip, List.take_zipWith, List.drop_zipWith]
    rw [List.zipWith_append (by simp [hl])]
  rw [ofT_zip h1 (by simp [hl]) (by
    rw [hz]
    intro p hp
    rcases List.mem_append.1 hp with hp | hp
    · exact h2 p (List.mem_of_mem_take hp)
    · exact h2 p (List.mem_of_mem_drop hp)) (by simp; omega), hz, e, List.map_append, List.map_take, List.map_drop]
theorem ofT_valid (hn : ins.length ≤ 20) : validB (ofT kinds conf ins del rep sw unk).1 ins sw ins.length = true := by
  have := (ofT_ok kinds conf ins del rep sw unk hn).2.2.2 h
  obtain ⟨e, h1, h2, h3⟩ := ofT_whole hl h
  rw [e] at this ⊢
  exact this
end
theorem validB_sub {xs ys : List S51} {ins : List Int} {sw n : Int} (h : validB xs ins sw n = true) (hl : ys.length ≤ 60) (hs : ∀ c ∈ ys, c ∈ xs) : validB ys ins sw n = true ∧ ys.all (vcB n) = true := by
  simp only [validB, Bool.and_eq_true, decide_eq_true_eq, List.all_eq_true] at h ⊢
  exact ⟨⟨⟨⟨⟨h.1.1.1.1, hl⟩, h.1.1.2⟩, h.1.2⟩, h.2.1, fun c hc => h.2.2 c (hs c hc)⟩, fun c hc => h.2.2 c (hs c hc)⟩
/-- Putting the middle back. -/
theorem rep_back {xs : List S51} {ins : List Int} {sw : Int} (h : validB xs ins sw ins.length = true) (i k : Nat) (hik : i ≤ k) (hk : k ≤ xs.length) :
    repT (xs.take i ++ xs.drop k) ins sw i 0 ((k : Int) - i) ((xs.drop i).take (k - i)) = (xs, ins, sw, 0) := by
  have hx60 : xs.length ≤ 60 := by simp only [validB, Bool.and_eq_true, decide_eq_true_eq] at h; exact h.1.1.1.2
  have h1 := validB_sub (ys := xs.take i ++ xs.drop k) h (by simp; omega) (by
    intro c hc
    rcases List.mem_append.1 hc with hc | hc
    · exact List.mem_of_mem_take hc
    · exact List.mem_of_mem_drop hc)
  have h2 := validB_sub (ys := (xs.drop i).take (k - i)) h (by simp; omega) (fun c hc => List.mem_of_mem_drop (List.mem_of_mem_take hc))
  have hl : ((xs.drop i).take (k - i)).length = k - i := by simp; omega
  have hl2 : (xs.take i ++ xs.drop k).length = i + (xs.length - k) := by simp; omega
  unfold repT
  rw [if_pos ⟨h1.1, h2.2, by rw [hl]; omega⟩, if_neg (by rw [hl2]; omega), if_neg (by rw [hl2, hl]; omega)]
  congr 1
  have e1 : (xs.take i).length = i := by simp; omega
  rw [Int.toNat_natCast, show (0 : Int).toNat = 0 from rfl, Nat.add_zero, List.take_append_of_le_length (by omega), List.drop_append_of_le_length (by omega), List.take_take, Nat.min_self, List.drop_eq_nil_of_le (by omega : (xs.take i).length ≤ i), List.nil_append]
  have e2 : xs.drop k = (xs.drop i).drop (k - i) := by rw [List.drop_drop]; congr 1; omega
  rw [e2, List.append_assoc, List.take_append_drop, List.take_append_drop]
/-- Taking the middle out. -/
theorem rep_out {xs : List S51} {ins : List Int} {sw : Int} (h : validB xs ins sw ins.length = true) (i k : Nat) (hik : i ≤ k) (hk : k ≤ xs.length) :
    repT xs ins sw i ((k : Int) - i) 0 [] = (xs.take i ++ xs.drop k, ins, sw, 0) := by
  have hx60 : xs.length ≤ 60 := by simp only [validB, Bool.and_eq_true, decide_eq_true_eq] at h; exact h.1.1.1.2
  unfold repT
  rw [if_pos ⟨h, rfl, rfl⟩, if_neg (by omega), if_neg (by simp only [List.length_nil]; omega)]
  congr 1
  rw [Int.toNat_natCast, List.append_nil, show i + ((k : Int) - i).toNat = k by omega]
end Go.Proofs.Ytcigcacjjdpgfaa.PA
