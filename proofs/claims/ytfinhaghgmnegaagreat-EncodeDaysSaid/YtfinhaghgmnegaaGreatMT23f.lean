-- The library's sort and copy of numbers at this program (lines written by the shelf's tool).
/- A list of numbers, rising, and a rule's times of day, as contracts. No condition beyond those each lemma names. -/
import Derived.Sort.OwnSortedInts
import Derived.Shelf.Sort.Plain
import Derived.Ground.Names2Prog
import Derived.Shelf.Slices.Clone
import Derived.Shelf.Slices.In.SortNone
import Derived.Test.YtfinhaghgmnegaaGreatProg
import Derived.Test.YtfinhaghgmnegaaGreatMT23e
namespace Go.Proofs.YtfinhaghgmnegaaGreat.O
open Go.Shelf
def sh_lays189_ren : Go.Shelf.Ren := ⟨fun | 189 => 88 | 125 => 91 | 257 => 90 | 128 => 101 | 129 => 102 | 294 => 92 | 295 => 93 | 296 => 94 | 297 => 95 | 298 => 96 | 299 => 97 | 216 => 98 | 300 => 99 | 301 => 100 | 328 => 103 | 329 => 104 | 330 => 105 | 331 => 106 | 332 => 107 | 215 => 108 | 343 => 109 | n => n, fun | 28 => 26 | 3 => 3 | 46 => 22 | 0 => 0 | 51 => 139 | 53 => 131 | 4 => 4 | 183 => 134 | 182 => 133 | 131 => 78 | 5 => 5 | 9 => 9 | 218 => 141 | 222 => 145 | 228 => 147 | 229 => 81 | n => n, fun | n => n⟩
theorem sh_lays189 : Go.Proofs.Lays.n189 Tryz.prog sh_lays189_ren := {
  mixed := by kernel_rfl
  f125 := Tryz.func91.trans (congrArg some (by kernel_rfl))
  f128 := Tryz.func101.trans (congrArg some (by kernel_rfl))
  f129 := Tryz.func102.trans (congrArg some (by kernel_rfl))
  f189 := Tryz.func88.trans (congrArg some (by kernel_rfl))
  f215 := Tryz.func108.trans (congrArg some (by kernel_rfl))
  f216 := Tryz.func98.trans (congrArg some (by kernel_rfl))
  f257 := Tryz.func90.trans (congrArg some (by kernel_rfl))
  f294 := Tryz.func92.trans (congrArg some (by kernel_rfl))
  f295 := Tryz.func93.trans (congrArg some (by kernel_rfl))
  f296 := Tryz.func94.trans (congrArg some (by kernel_rfl))
  f297 := Tryz.func95.trans (congrArg some (by kernel_rfl))
  f298 := Tryz.func96.trans (congrArg some (by kernel_rfl))
  f299 := Tryz.func97.trans (congrArg some (by kernel_rfl))
  f300 := Tryz.func99.trans (congrArg some (by kernel_rfl))
  f301 := Tryz.func100.trans (congrArg some (by kernel_rfl))
  f328 := Tryz.func103.trans (congrArg some (by kernel_rfl))
  f329 := Tryz.func104.trans (congrArg some (by kernel_rfl))
  f330 := Tryz.func105.trans (congrArg some (by kernel_rfl))
  f331 := Tryz.func106.trans (congrArg some (by kernel_rfl))
  f332 := Tryz.func107.trans (congrArg some (by kernel_rfl))
  f343 := Tryz.func109.trans (congrArg some (by kernel_rfl))
  t0 := Tryz.underlying0
  a0 := Tryz.isAgg0
  z0 := Tryz.sizeOf0
  v0 := Tryz.zeroValue0
  t3 := Tryz.underlying3
  a3 := Tryz.isAgg3
  z3 := Tryz.sizeOf3
  v3 := Tryz.zeroValue3
  t4 := Tryz.underlying4
  a4 := Tryz.isAgg4
  z4 := Tryz.sizeOf4
  v4 := Tryz.zeroValue4
  t5 := Tryz.underlying5
  a5 := Tryz.isAgg5
  z5 := Tryz.sizeOf5
  v5 := Tryz.zeroValue5
  t9 := Tryz.underlying9
  a9 := Tryz.isAgg9
  z9 := Tryz.sizeOf9
  v9 := Tryz.zeroValue9
  t28 := Tryz.underlying26
  a28 := Tryz.isAgg26
  z28 := Tryz.sizeOf26
  v28 := Tryz.zeroValue26
  t46 := Tryz.underlying22
  a46 := Tryz.isAgg22
  z46 := Tryz.sizeOf22
  v46 := Tryz.zeroValue22
  t51 := Tryz.underlying139
  a51 := Tryz.isAgg139
  z51 := Tryz.sizeOf139
  v51 := Tryz.zeroValue139
  t53 := Tryz.underlying131
  a53 := Tryz.isAgg131
  z53 := Tryz.sizeOf131
  v53 := Tryz.zeroValue131
  t131 := Tryz.underlying78
  a131 := Tryz.isAgg78
  z131 := Tryz.sizeOf78
  v131 := Tryz.zeroValue78
  t182 := Tryz.underlying133
  a182 := Tryz.isAgg133
  z182 := Tryz.sizeOf133
  v182 := Tryz.zeroValue133
  t183 := Tryz.underlying134
  a183 := Tryz.isAgg134
  z183 := Tryz.sizeOf134
  v183 := Tryz.zeroValue134
  t218 := Tryz.underlying141
  a218 := Tryz.isAgg141
  z218 := Tryz.sizeOf141
  v218 := Tryz.zeroValue141
  t222 := Tryz.underlying145
  a222 := Tryz.isAgg145
  z222 := Tryz.sizeOf145
  v222 := Tryz.zeroValue145
  t228 := Tryz.underlying147
  a228 := Tryz.isAgg147
  z228 := Tryz.sizeOf147
  v228 := Tryz.zeroValue147
  t229 := Tryz.underlying81
  a229 := Tryz.isAgg81
  z229 := Tryz.sizeOf81
  v229 := Tryz.zeroValue81 }
open Go.Sort Go.RowKit in
theorem sh_slices_Sort_int (blk off cap : Nat) (zs : List Int) (w : World) (hH : Go.Sort.Holds (Value.int .i64) w blk off zs.toArray) (hblk : blk < w.heap.size) (hsz : zs.length < 4611686018427387904) :
    Calls Tryz.prog 88 #[.slice (some ⟨blk, off, none⟩) zs.length cap] w fun e w' =>
      e = .returned (.tuple #[]) ∧ ∃ n os, w' = grow (putRow (Value.int .i64) (Sort.ahead w n) blk off (zs.mergeSort fun x y => decide (x ≤ y)).toArray) os := Any.slices_Sort_int sh_lays189 blk off cap zs w hH hblk hsz
def sh_laysNm215_ren : Go.Shelf.Ren := ⟨fun | 15 => 87 | n => n, fun | 22 => 26 | 3 => 3 | 4 => 4 | n => n, fun | n => n⟩
theorem sh_laysNm215 : Go.Proofs.Lays2.n15 Tryz.prog sh_laysNm215_ren := {
  mixed := by kernel_rfl
  f15 := Tryz.func87.trans (congrArg some (by kernel_rfl))
  t3 := Tryz.underlying3
  a3 := Tryz.isAgg3
  z3 := Tryz.sizeOf3
  v3 := Tryz.zeroValue3
  t4 := Tryz.underlying4
  a4 := Tryz.isAgg4
  z4 := Tryz.sizeOf4
  v4 := Tryz.zeroValue4
  t22 := Tryz.underlying26
  a22 := Tryz.isAgg26
  z22 := Tryz.sizeOf26
  v22 := Tryz.zeroValue26
  i3 := by kernel_rfl }
open Go.RowKit Go.Lib in
/-- slices.Clone at []int: "Clone returns a copy of the slice. The elements are copied using assignment, so this is a shallow clone. The result may have additional unused capacity. The result preserves the nilness of s.": OF A SLICE THAT IS NOT nil IT RETURNS A SLICE THAT IS NOT nil, OF THE SAME ELEMENTS, IN MEMORY OF THE CALL's OWN: in the how-to's words (6f): 'w'.ownsRow B e 1 v' n cells': v' begins at the head of a row among the blocks from B on (B: the heap's size at the call), not frozen, whose first cells are the elements · 'Below B w w'': below B all is as it was. The capacity is whatever the run-time gives. 'zs': what the cells behind the slice's address hold; 'zs.take n': its elements. (LAID: no walk: one application.) -/
theorem sh_slices_Clone_int (b off n c : Nat) (zs : List Int) (w : World) (hz : n ≤ zs.length) (hbig : n * 8 ≤ 140737488355328) (hc : ∀ j, j < zs.length → w.cell? ⟨b, off + j, none⟩ = some (.int .i64 (zs.getD j 0))) :
    Calls Tryz.prog 87 #[.slice (some ⟨b, off, none⟩) n c] w fun e w' => ∃ v', e = .returned v' ∧ w'.ownsRow w.heap.size 3 1 v' n ((zs.take n).map (Value.int .i64)) ∧ v' ≠ .slice none 0 0 ∧ Below w.heap.size w w' := Any.slices_Clone_int sh_laysNm215 b off n c zs w hz hbig hc
end Go.Proofs.YtfinhaghgmnegaaGreat.O

namespace Go.Proofs.YtfinhaghgmnegaaGreat.Pure
open Go.RowKit Go.Proofs.YtfinhaghgmnegaaGreat.O Go.Proofs.YtfinhaghgmnegaaGreatW.PrintWords Go.Proofs.YtfinhaghgmnegaaGreatW.PrintLast
open Go.Proofs.YtfinhaghgmnegaaGreat.Civ
set_option linter.unusedVariables false
set_option linter.unusedSimpArgs false
set_option maxRecDepth 100000
set_option maxHeartbeats 4000000
theorem R_sort {w : World} {b g cap n : Nat} {l : List Int} {os : Array Obj} (h : Kd.R (Kd.int .i64) 3 w b (fun _ => True) (.slice (some ⟨g, 0, none⟩) l.length cap) l) (hp : 0 < l.length) : Kd.R (Kd.int .i64) 3 (Go.Sort.grow (Go.Sort.putRow (Value.int .i64) (Go.Sort.ahead w n) g 0 (srt l).toArray) os) b (fun _ => True) (.slice (some ⟨g, 0, none⟩) l.length cap) (srt l) ∧ w.grownBy (Go.Sort.grow (Go.Sort.putRow (Value.int .i64) (Go.Sort.ahead w n) g 0 (srt l).toArray) os) (some g) := by
  have ho := Kd.own_of_R h
  rcases ho.2 with ⟨h0, _⟩ | ⟨g', cap', cur, hv, hg, hh, hn, hcap, hsz, htake⟩
  · cases h0
  cases hv
  refine ⟨?_, Go.grownBy_sortedI _⟩
  have := Go.ownsRow_sortedI (n := n) (os := os) (ts := srt l) (srt_len l) hg hh hn hcap hsz
  exact Kd.R_of_own (xs := srt l) (by rw [srt_len]; exact this) (fun _ _ => trivial)
theorem choice_on {w : World} {A : Option Addr} {c : Nat} {l : List Int} (n : Int) (hk : Kd.C (Kd.int .i64) w A l.length l) (hl : l.length ≤ 1000000000) :
    Calls Tryz.prog 78 #[.slice A l.length c, .int .i64 n] w fun e W' => ∃ v', e = .returned v' ∧ Kd.R (Kd.int .i64) 3 W' w.heap.size (fun _ => True) v' (choiceV l n) ∧ Below w.heap.size w W' := by
  refine en_ Tryz.func78 rfl rfl rfl fun a K => sr_ (run_ 1 K rfl fun a K => nil_ (wp_seq (sr_ (run_ 3 K rfl fun a K => nil_ ?_))))
  unfold choiceV
  by_cases h : l = []
  · rw [if_pos h]
    refine ct_ K rfl ((nil_len _).trans (decide_eq_true ((nil_iff _).2 h))) (sr_ (run_ 1 K rfl fun a K => val_ K rfl rfl rfl (run_bs22 rfl (K.of (x := .tmp 8) rfl)) fun a K => run_ 1 K rfl fun a K => nil_ (ret_ rfl K rfl ⟨_, rfl, ?_, below_alloc (Below.refl _ _) _⟩)))
    exact Kd.R_of_own (xs := [n]) ⟨rfl, Or.inr ⟨_, 1, _, rfl, Nat.le_refl _, blk_new w _, Nat.le_refl _, by unfold maxLen; omega, rfl, rfl⟩⟩ (fun _ _ => trivial)
  rw [if_neg h]
  have hp : 0 < l.length := List.length_pos_iff.2 h
  obtain ⟨ad, eA, hat⟩ := C_at hk hp
  subst eA
  have hsp : ad.spot = none := by
    obtain ⟨_, _, _, _, q⟩ := World.shape?_of_cell? (hat 0 l[0] (List.getElem?_eq_getElem hp))
    unfold Addr.add at q
    split at q <;> simp_all
  obtain ⟨b, off, sp⟩ := ad
  obtain rfl : sp = none := hsp
  refine cs_ K rfl ((nil_len _).trans (decide_eq_false fun q => h ((nil_iff _).1 q))) (sr_ (run_ 1 K rfl fun a K => cl_ K Tryz.func87 (by kernel_rfl) rfl rfl rfl rfl rfl rfl ((sh_slices_Clone_int b off l.length c l w (Nat.le_refl _) (by omega) fun j hj => ?_).mono ?_)))
  · have := hat j l[j] (List.getElem?_eq_getElem hj)
    rw [show l.getD j 0 = l[j] by simp [List.getD, List.getElem?_eq_getElem hj]]
    by_cases q : j = 0
    · subst q; simpa [Addr.add] using this
    · simpa [Addr.add, q] using this
  rintro _ w1 ⟨v', rfl, ho, hne, b1⟩
  rw [List.take_length] at ho
  have R1 : Kd.R (Kd.int .i64) 3 w1 w.heap.size (fun _ => True) v' l := Kd.R_of_own ho (fun _ _ => trivial)
  obtain ⟨g, cap, rfl, hg, hlt, cells, hcells⟩ := Kd.R_form R1 hp
  refine ⟨_, rfl, fun a K => run_ 1 K rfl fun a K => nil_ (sr_ (run_ 1 K rfl fun a K => cl_ K Tryz.func88 (by kernel_rfl) rfl rfl rfl rfl rfl rfl ((sh_slices_Sort_int g 0 cap l w1 ?_ hlt (by omega)).mono ?_)))⟩
  · rcases ho.2 with ⟨h0, _⟩ | ⟨g', cap', cur, hv, _, hh, hn, hcap, hsz, htake⟩
    · cases h0
    cases hv
    exact Go.holds_of_blockI hh (by simpa using htake)
  rintro _ w2 ⟨rfl, q, os, rfl⟩
  obtain ⟨R2, g2⟩ := R_sort (n := q) (os := os) R1 hp
  exact ⟨_, rfl, fun a K => nil_ (sr_ (run_ 2 K rfl fun a K => nil_ (ret_ rfl K rfl ⟨_, rfl, R2, pw_below_grown b1 (some g) b1.size g2 (fun q hq => by injection hq with hq; rw [← hq]; exact hg)⟩)))⟩
theorem free_on {w : World} (b : Bool) (x y : Int) : Calls Tryz.prog 79 #[.bool b, .int .i64 x, .int .i64 y] w (Rets w (.int .i64 (if b then x else y))) := by
  refine en_ Tryz.func79 rfl rfl rfl fun a K => sr_ (run_ 1 K rfl fun a K => nil_ (wp_seq (sr_ (run_ 1 K rfl fun a K => nil_ ?_))))
  cases b with
  | true => exact ct_ K rfl rfl (sr_ (run_ 2 K rfl fun a K => nil_ (ret_ rfl K rfl ⟨rfl, Below.refl _ _⟩)))
  | false => exact cs_ K rfl rfl (sr_ (run_ 2 K rfl fun a K => nil_ (ret_ rfl K rfl ⟨rfl, Below.refl _ _⟩)))
end Go.Proofs.YtfinhaghgmnegaaGreat.Pure
