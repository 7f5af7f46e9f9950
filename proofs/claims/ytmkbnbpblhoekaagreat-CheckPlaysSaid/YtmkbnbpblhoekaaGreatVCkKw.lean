/- Part of a proof for X's executor: what the program's functions answer. -/
import Derived.Test.YtmkbnbpblhoekaaGreatProg
import Derived.Test.YtmkbnbpblhoekaaGreatW3
import Derived.WalkKit
set_option linter.unusedSimpArgs false
set_option linter.unusedVariables false
set_option linter.unusedSectionVars false
namespace Go.Proofs.YtmkbnbpblhoekaaGreat
open Go.Shelf Go.RowKit Go.Lib Go.Sort Go.Xr
theorem var_w (l : Int) (h1 : -2147483648 <= l) (h2 : l <= 2147483647) (W : World) : Calls Tryz.prog 51 #[.int .i32 l] W fun e w' => e = .returned (.int .i64 (litVar l)) /\ w' = W := by
 unfold litVar
 go_enter Tryz.func51,Tryz.ntmps51
 by_cases h : l < 0
 ·go_wp2
  go_ret
  exact ⟨rfl,rfl⟩
 ·go_wp2
  go_ret
  exact ⟨rfl,rfl⟩
theorem Var_w (l : Int) (h1 : -2147483648 <= l) (h2 : l <= 2147483647) (W : World) : Calls Tryz.prog 33 #[.int .i32 l] W fun e w' => e = .returned (.int .i64 (litVar l)) /\ w' = W := by
 have hcon := var_w l h1 h2 W
 generalize litVar l = r at hcon ⊢
 go_enter Tryz.func33,Tryz.ntmps33
 go_wp2_with (go_at_call 51; refine hcon.mono ?_; rintro e w' ⟨rfl,rfl⟩)
 go_ret
 exact ⟨rfl,rfl⟩
theorem nan_w (x : Int) (W : World) : Calls Tryz.prog 88 #[.int .i64 x] W fun e w' => e = .returned (.bool false) /\ w' = W := by
 go_enter Tryz.func88,Tryz.ntmps88
 go_wp2
 go_ret
 exact ⟨rfl,rfl⟩
theorem nan2_w (x : Int) (W : World) : Calls Tryz.prog 89 #[.int .i32 x] W fun e w' => e = .returned (.bool false) /\ w' = W := by
 go_enter Tryz.func89,Tryz.ntmps89
 go_wp2
 go_ret
 exact ⟨rfl,rfl⟩
def cmpI (x y : Int) : Int := if x < y then -1 else if y < x then 1 else 0
set_option maxRecDepth 100000 in
theorem cmp_w (x y : Int) (W : World) : Calls Tryz.prog 71 #[.int .i64 x,.int .i64 y] W fun e w' => e = .returned (.int .i64 (cmpI x y)) /\ w' = W := by
 have n1 := nan_w x W
 have n2 := nan_w y W
 unfold cmpI
 go_enter Tryz.func71,Tryz.ntmps71
 by_cases h : x < y
 ·go_wp2_with (go_at_call 88; first | (refine n1.mono ?_; rintro e w' ⟨rfl,rfl⟩) | (refine n2.mono ?_; rintro e w' ⟨rfl,rfl⟩))
  go_ret
  exact ⟨rfl,rfl⟩
 ·by_cases h' : y < x
  ·go_wp2_with (go_at_call 88; first | (refine n1.mono ?_; rintro e w' ⟨rfl,rfl⟩) | (refine n2.mono ?_; rintro e w' ⟨rfl,rfl⟩))
   go_ret
   exact ⟨rfl,rfl⟩
  ·go_wp2_with (go_at_call 88; first | (refine n1.mono ?_; rintro e w' ⟨rfl,rfl⟩) | (refine n2.mono ?_; rintro e w' ⟨rfl,rfl⟩))
   go_ret
   exact ⟨rfl,rfl⟩
set_option maxRecDepth 100000 in
theorem cmp2_w (x y : Int) (W : World) : Calls Tryz.prog 72 #[.int .i32 x,.int .i32 y] W fun e w' => e = .returned (.int .i64 (cmpI x y)) /\ w' = W := by
 have n1 := nan2_w x W
 have n2 := nan2_w y W
 unfold cmpI
 go_enter Tryz.func72,Tryz.ntmps72
 by_cases h : x < y
 ·go_wp2_with (go_at_call 89; first | (refine n1.mono ?_; rintro e w' ⟨rfl,rfl⟩) | (refine n2.mono ?_; rintro e w' ⟨rfl,rfl⟩))
  go_ret
  exact ⟨rfl,rfl⟩
 ·by_cases h' : y < x
  ·go_wp2_with (go_at_call 89; first | (refine n1.mono ?_; rintro e w' ⟨rfl,rfl⟩) | (refine n2.mono ?_; rintro e w' ⟨rfl,rfl⟩))
   go_ret
   exact ⟨rfl,rfl⟩
  ·go_wp2_with (go_at_call 89; first | (refine n1.mono ?_; rintro e w' ⟨rfl,rfl⟩) | (refine n2.mono ?_; rintro e w' ⟨rfl,rfl⟩))
   go_ret
   exact ⟨rfl,rfl⟩
set_option maxRecDepth 100000 in
theorem or_w (a c : Int) (b cap : Nat) (W : World) (h0 : W.cell? ⟨b,0,none⟩ = some (.int .i64 a)) (h1 : W.cell? ⟨b,1,none⟩ = some (.int .i64 c)) :
  Calls Tryz.prog 70 #[.slice (some ⟨b,0,none⟩) 2 cap] W fun e w' => e = .returned (.int .i64 (if a = 0 then c else a)) /\ w' = W := by
 go_enter Tryz.func70,Tryz.ntmps70
 go_wp2
 go_loop [5,8] (fun _ i => ∃ k : Nat,k <= 2 /\ i = .int .i64 k /\ (0 < k -> a = 0) /\ (1 < k -> c = 0)) (fun _ i => 2 - (intOf i).toNat)
 case atStart => exact ⟨0,by omega,rfl,by omega,by omega⟩
 case round =>
  obtain ⟨k,hk,rfl,k1,k2⟩ := hrel
  have hk3 : k = 0 \/ k = 1 \/ k = 2 := by omega
  clear hk
  rcases hk3 with rfl | rfl | rfl
  ·clear k1 k2
   go_wp2
   ·have e0 : (a != 0) = true := by assumption
    have e1 : a = 0 := by assumption
    simp [e1] at e0
   ·go_ret
    exact ⟨rfl,rfl⟩
   ·have h0 : (a != 0) = false := by assumption
    exact ⟨⟨1,by omega,rfl,fun _ => by simpa using h0,fun h => by omega⟩,by simp [intOf]⟩
  ·have ha : a = 0 := k1 (by omega)
   subst ha
   clear k1 k2
   go_wp2
   ·go_ret
    exact ⟨rfl,rfl⟩
   ·have h0 : (c != 0) = false := by assumption
    exact ⟨⟨2,by omega,rfl,fun _ => trivial,fun _ => by simpa using h0⟩,by simp [intOf]⟩
  ·have ha : a = 0 := k1 (by omega)
   have hc : c = 0 := k2 (by omega)
   subst ha
   subst hc
   clear k1 k2
   go_wp2
   all_goals (go_ret; exact ⟨rfl,rfl⟩)
theorem cell_new (W : World) (cs : Array Value) (i : Nat) : (W.alloc (.cells cs 3)).cell? ⟨W.heap.size,i,none⟩ = cs[i]? := by
 have e : (W.alloc (.cells cs 3)).heap[W.heap.size]? = some (.cells cs 3) := by
  unfold World.alloc
  simp only
  exact Array.getElem?_push_size
 unfold World.cell?
 simp only [e]
 rfl
set_option maxRecDepth 100000 in
set_option maxHeartbeats 1000000 in
theorem order_w (x y : I32) (W : World) : Calls Tryz.prog 53 #[encI32 x,encI32 y] W fun e w' => e = .returned (.int .i64 (litCmp x y)) /\ ∃ q os,w' = grow (W.drewN q) os := by
 obtain ⟨x,hx⟩ := x
 obtain ⟨y,hy⟩ := y
 unfold encI32
 simp only
 have v1 := fun W => Var_w x hx.1 hx.2 W
 have v2 := fun W => Var_w y hy.1 hy.2 W
 have c1 := fun W => cmp_w (litVar x) (litVar y) W
 have c2 := fun W => cmp2_w x y W
 have o1 := or_w (cmpI (litVar x) (litVar y)) (cmpI x y) W.heap.size 2 (W.alloc (.cells #[.int .i64 (cmpI (litVar x) (litVar y)),.int .i64 (cmpI x y)] 3)) (cell_new W _ 0) (cell_new W _ 1)
 have hfin : litCmp ⟨x,hx⟩ ⟨y,hy⟩ = if cmpI (litVar x) (litVar y) = 0 then cmpI x y else cmpI (litVar x) (litVar y) := by
  unfold litCmp cmpI
  simp only
  repeat' split
  all_goals first | rfl | omega | contradiction
 rw [hfin]
 generalize (if cmpI (litVar x) (litVar y) = 0 then cmpI x y else cmpI (litVar x) (litVar y)) = r at o1 ⊢
 generalize cmpI (litVar x) (litVar y) = r1 at c1 o1
 generalize cmpI x y = r2 at c2 o1
 generalize litVar x = lx at v1 c1
 generalize litVar y = ly at v2 c1
 go_enter Tryz.func53,Tryz.ntmps53
 go_wp2_with (first
  | (go_at_call 33; first | (refine (v1 _).mono ?_; rintro e w' ⟨rfl,rfl⟩) | (refine (v2 _).mono ?_; rintro e w' ⟨rfl,rfl⟩))
  | (go_at_call 71; refine (c1 _).mono ?_; rintro e w' ⟨rfl,rfl⟩)
  | (go_at_call 72; refine (c2 _).mono ?_; rintro e w' ⟨rfl,rfl⟩)
  | (go_at_call 70; refine o1.mono ?_; rintro e w' ⟨rfl,rfl⟩))
 go_ret
 exact ⟨rfl,0,_,alloc_eq_grow _ _⟩
end Go.Proofs.YtmkbnbpblhoekaaGreat
