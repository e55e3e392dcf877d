/-
 Parts of the proofs of the laws FnCodeFenced,FnCountBranches.
-/
import Derived.Test.YtkjedgnepnbkpaaY
import Derived.Test.YtkjedgnepnbkpaaKq1
set_option linter.all false
namespace Go.Proofs.Ytkjedgnepnbkpaa
open Go.RowKit
theorem info_ev:(Try.prog.info? 47).map (fun i=>(i.zero,i.size,i.bytes))=some (some (.agg #[.int .i64 0,.int .i64 0]),2,16):=by kernel_rfl
theorem tEvs:SliceT Try.prog 42 47 (.agg #[.int .i64 0,.int .i64 0]) 2 16:=⟨Try.underlying42,info_ev,rfl,by omega,by omega⟩
theorem one_ev (a b:Int):∀ u ∈ [Value.int .i64 a,Value.int .i64 b],u.oneCell'=true:=one_evs [(a,b)]
theorem l3Bool_any (b:Bool) (w:World):Calls Try.prog 157 #[.bool b] w fun e w'=>e=.returned (.int .i64 (tru b))∧w'=w:=by
 cases b
 all_goals
  go_enter Try.func157,Try.ntmps157
  go_wp2
  go_ret
  exact ⟨rfl,rfl⟩
theorem truthS_any (b:Bool) (w:World):Calls Try.prog 53 #[.bool b] w fun e w'=>e=.returned (.int .i64 (tru b))∧w'=w:=by
 cases b
 all_goals
  go_enter Try.func53,Try.ntmps53
  go_wp2
  go_ret
  exact ⟨rfl,rfl⟩
theorem opr_cases {k:Int} (h:4≤k∧k≤10):k=4∨k=5∨k=6∨k=7∨k=8∨k=9∨k=10:=by omega
theorem mul_small {a b:Int} (ha:0≤a∧a≤255) (hb:0≤b∧b≤255):0≤a*b∧a*b≤65025:=by
 obtain ⟨m,rfl⟩:∃ m:Nat,a=m:=⟨a.toNat,by omega⟩
 obtain ⟨n,rfl⟩:∃ n:Nat,b=n:=⟨b.toNat,by omega⟩
 have h:m*n≤255*255:=Nat.mul_le_mul (by omega) (by omega)
 have e:((m:Int)*(n:Int))=((m*n:Nat):Int):=by simp
 rw [e];omega
theorem mul_rem {a b:Int} (ha:0≤a∧a≤255) (hb:0≤b∧b≤255):(wrap64 (a*b)).tmod 256=(a*b) % 256:=by
 obtain ⟨h0,h1⟩:=mul_small ha hb
 have hw:wrap64 (a*b)=a*b:=by unfold wrap64;omega
 rw [hw,Int.tmod_eq_emod_of_nonneg h0]
theorem address_any (a i:Int) (w:World) (ha:0≤a∧a≤1048576) (hi:0≤i∧i≤255) :
  Calls Try.prog 118 #[.int .i64 a,.int .i64 i] w fun e w'=>e=.returned (.int .i64 (adr a i))∧w'=w:=by
 go_enter Try.func118,Try.ntmps118
 go_wp2
 go_ret
 exact ⟨rfl,rfl⟩
theorem l3Address_any (a i:Int) (w:World) (ha:0≤a∧a≤1048576) (hi:0≤i∧i≤255) :
  Calls Try.prog 126 #[.int .i64 a,.int .i64 i] w fun e w'=>e=.returned (.int .i64 (adr a i))∧w'=w:=by
 go_enter Try.func126,Try.ntmps126
 go_wp2
 go_ret
 exact ⟨rfl,rfl⟩
set_option maxHeartbeats 3200000 in
theorem operate_any (k a b:Int) (w:World) (hk:4≤k∧k≤10) (ha:0≤a∧a≤255) (hb:0≤b∧b≤255) :
  Calls Try.prog 119 #[.int .i64 k,.int .i64 a,.int .i64 b] w fun e w'=>e=.returned (.int .i64 (opr k a b))∧w'=w:=by
 have HM:=Lib.hid (mul_rem ha hb)
 rcases opr_cases hk with rfl | rfl | rfl | rfl | rfl | rfl | rfl
 ·clear hk
  go_enter Try.func119,Try.ntmps119
  go_wp2
  go_ret
  exact ⟨rfl,rfl⟩
 ·clear hk
  go_enter Try.func119,Try.ntmps119
  go_wp2
  go_ret
  exact ⟨rfl,rfl⟩
 ·clear hk
  go_enter Try.func119,Try.ntmps119
  go_wp2
  go_ret
  exact ⟨ret_int HM.out,rfl⟩
 ·clear hk
  go_enter Try.func119,Try.ntmps119
  go_wp2
  go_ret
  exact ⟨rfl,rfl⟩
 ·clear hk
  go_enter Try.func119,Try.ntmps119
  go_wp2
  go_ret
  exact ⟨rfl,rfl⟩
 ·clear hk
  have HO:Hid (opr 9 a b=tru (a == b)):=Lib.hid rfl
  obtain ⟨q,hq⟩:∃ q:Bool,(a == b)=q:=⟨_,rfl⟩
  rw [hq] at HO
  go_enter Try.func119,Try.ntmps119
  go_wp2_with fail
  refine (truthS_any q _).mono ?_
  rintro e w1 ⟨rfl,rfl⟩
  clear hq
  cases q
  all_goals
   go_wp2
   go_ret
   exact ⟨ret_int HO.out.symm,rfl⟩
 clear hk
 have HO:Hid (opr 10 a b=tru (decide (a < b))):=Lib.hid rfl
 obtain ⟨q,hq⟩:∃ q:Bool,(decide (a < b))=q:=⟨_,rfl⟩
 rw [hq] at HO
 go_enter Try.func119,Try.ntmps119
 go_wp2_with fail
 refine (truthS_any q _).mono ?_
 rintro e w1 ⟨rfl,rfl⟩
 clear hq
 cases q
 all_goals
  go_wp2
  go_ret
  exact ⟨ret_int HO.out.symm,rfl⟩
set_option maxHeartbeats 3200000 in
theorem l3Bin_any (k a b:Int) (w:World) (hk:4≤k∧k≤10) (ha:0≤a∧a≤255) (hb:0≤b∧b≤255) :
  Calls Try.prog 127 #[.int .i64 k,.int .i64 a,.int .i64 b] w fun e w'=>e=.returned (.int .i64 (opr k a b))∧w'=w:=by
 have HM:=Lib.hid (mul_rem ha hb)
 rcases opr_cases hk with rfl | rfl | rfl | rfl | rfl | rfl | rfl
 ·clear hk
  go_enter Try.func127,Try.ntmps127
  go_wp2
  go_ret
  exact ⟨rfl,rfl⟩
 ·clear hk
  go_enter Try.func127,Try.ntmps127
  go_wp2
  go_ret
  exact ⟨rfl,rfl⟩
 ·clear hk
  go_enter Try.func127,Try.ntmps127
  go_wp2
  go_ret
  exact ⟨ret_int HM.out,rfl⟩
 ·clear hk
  go_enter Try.func127,Try.ntmps127
  go_wp2
  go_ret
  exact ⟨rfl,rfl⟩
 ·clear hk
  go_enter Try.func127,Try.ntmps127
  go_wp2
  go_ret
  exact ⟨rfl,rfl⟩
 ·clear hk
  have HO:Hid (opr 9 a b=tru (a == b)):=Lib.hid rfl
  obtain ⟨q,hq⟩:∃ q:Bool,(a == b)=q:=⟨_,rfl⟩
  rw [hq] at HO
  go_enter Try.func127,Try.ntmps127
  go_wp2_with fail
  refine (l3Bool_any q _).mono ?_
  rintro e w1 ⟨rfl,rfl⟩
  clear hq
  cases q
  all_goals
   go_wp2
   go_ret
   exact ⟨ret_int HO.out.symm,rfl⟩
 clear hk
 have HO:Hid (opr 10 a b=tru (decide (a < b))):=Lib.hid rfl
 obtain ⟨q,hq⟩:∃ q:Bool,(decide (a < b))=q:=⟨_,rfl⟩
 rw [hq] at HO
 go_enter Try.func127,Try.ntmps127
 go_wp2_with fail
 refine (l3Bool_any q _).mono ?_
 rintro e w1 ⟨rfl,rfl⟩
 clear hq
 cases q
 all_goals
  go_wp2
  go_ret
  exact ⟨ret_int HO.out.symm,rfl⟩
end Go.Proofs.Ytkjedgnepnbkpaa
