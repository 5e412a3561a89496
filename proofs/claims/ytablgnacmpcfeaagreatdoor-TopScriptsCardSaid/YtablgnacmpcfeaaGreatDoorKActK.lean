/- ActK: Walks: acts checked. Walks of PathChecks, ForestNames, HistoryKepts. The conditions of each are in its words. -/
import Derived.OpenShut
import Derived.Test.YtablgnacmpcfeaaGreatDoorKBase
namespace Go.Proofs.YtablgnacmpcfeaaGreatDoor
open Go.RowKit
set_option linter.unusedVariables false
set_option linter.unusedSimpArgs false
set_option maxRecDepth 100000
set_option maxHeartbeats 8000000
def aB1 (k s p:Int) (n:Nat):Int :=
 if k<1∨4<k then 5 else if (k=1∧(s<0∨8≤s))∨(k=3∧(p<0∨200000<p)) then 2 else if 4000<n then 1
 else if (k≠1∧(s≠0∨0<n))∨(k≠3∧p≠0) then 4 else 0
theorem bC4 (w:World) (k s p:Int) (A:Option Addr) (n c:Nat) :
  Calls Tryz.prog 35 #[.agg #[.int .i64 k,.int .i64 s,.int .i64 p,.slice A n c]] w (bQ w (.int .i64 (aB1 k s p n))):=by
 have hk:k<1∨4<k∨k=1∨k=3∨k=2∨k=4:=by omega
 rcases hk with h|h|rfl|rfl|rfl|rfl
 ·
  have b1:decide (1≤k)=false:=by simp;omega
  go_enter Tryz.func35,Tryz.ntmps35
  go_wp2
  all_goals (go_ret;exact⟨aM (by simp only[aB1];rw[if_pos AO]),BE⟩)
 ·
  have b2:decide (1≤k)=true:=by simp;omega
  have b3:decide (k≤4)=false:=by simp;omega
  go_enter Tryz.func35,Tryz.ntmps35
  go_wp2
  all_goals (go_ret;exact⟨aM (by simp only[aB1];rw[if_pos AO]),BE⟩)
 ·rcases (by omega:s<0∨8≤s∨((0≤s∧s<8)∧4000<n)∨((0≤s∧s<8)∧n≤4000∧p≠0)∨((0≤s∧s<8)∧n≤4000∧p=0)) with h|h|⟨⟨h,h'⟩,g⟩|⟨⟨h,h'⟩,g,e⟩|⟨⟨h,h'⟩,g,rfl⟩
  ·
   have b6:decide (0≤s)=false:=by simp;omega
   go_enter Tryz.func35,Tryz.ntmps35
   go_wp2
   all_goals (go_ret;exact⟨aM (by simp only[aB1];rw[if_neg AO,if_pos ZC8]),BE⟩)
  ·
   have b7:decide (0≤s)=true:=by simp;omega
   have b8:decide (s≤7)=false:=by simp;omega
   go_enter Tryz.func35,Tryz.ntmps35
   go_wp2
   all_goals (go_ret;exact⟨aM (by simp only[aB1];rw[if_neg AO,if_pos ZC8]),BE⟩)
  ·
   have b9:decide (0≤s)=true:=by simp;omega
   have b10:decide (s≤7)=true:=by simp;omega
   go_enter Tryz.func35,Tryz.ntmps35
   go_wp2
   all_goals (go_ret;exact⟨aM (by simp only[aB1];rw[if_neg AO,if_neg AO,if_pos AO]),BE⟩)
  ·
   have b11:decide (0≤s)=true:=by simp;omega
   have b12:decide (s≤7)=true:=by simp;omega
   have b13:(p != 0)=true:=by simp;omega
   go_enter Tryz.func35,Tryz.ntmps35
   go_wp2
   all_goals (go_ret;exact⟨aM ZD3,BE⟩)
  ·
   have b14:decide (0≤s)=true:=by simp;omega
   have b15:decide (s≤7)=true:=by simp;omega
   go_enter Tryz.func35,Tryz.ntmps35
   go_wp2
   all_goals (go_ret;exact⟨aM (by simp only[aB1];rw[if_neg AO,if_neg AO,if_neg AO,if_neg AO]),BE⟩)
 ·rcases (by omega:p<0∨200000<p∨((0≤p∧p≤200000)∧4000<n)∨((0≤p∧p≤200000)∧n≤4000∧s≠0)∨((0≤p∧p≤200000)∧n≤4000∧s=0∧0<n)∨((0≤p∧p≤200000)∧n=0∧s=0)) with h|h|⟨⟨h,h'⟩,g⟩|⟨⟨h,h'⟩,g,e⟩|⟨⟨h,h'⟩,g,rfl,e⟩|⟨⟨h,h'⟩,rfl,rfl⟩
  ·
   have b16:decide (0≤p)=false:=by simp;omega
   go_enter Tryz.func35,Tryz.ntmps35
   go_wp2
   all_goals (go_ret;exact⟨aM (by simp only[aB1];rw[if_neg AO,if_pos ZC8]),BE⟩)
  ·
   have b17:decide (0≤p)=true:=by simp;omega
   have b18:decide (p≤200000)=false:=by simp;omega
   go_enter Tryz.func35,Tryz.ntmps35
   go_wp2
   all_goals (go_ret;exact⟨aM (by simp only[aB1];rw[if_neg AO,if_pos ZC8]),BE⟩)
  ·
   have b19:decide (0≤p)=true:=by simp;omega
   have b20:decide (p≤200000)=true:=by simp;omega
   go_enter Tryz.func35,Tryz.ntmps35
   go_wp2
   all_goals (go_ret;exact⟨aM (by simp only[aB1];rw[if_neg AO,if_neg AO,if_pos AO]),BE⟩)
  ·
   have b21:decide (0≤p)=true:=by simp;omega
   have b22:decide (p≤200000)=true:=by simp;omega
   have b23:(s != 0)=true:=by simp;omega
   go_enter Tryz.func35,Tryz.ntmps35
   go_wp2
   all_goals (go_ret;exact⟨aM ZD3,BE⟩)
  ·
   have b24:decide (0≤p)=true:=by simp;omega
   have b25:decide (p≤200000)=true:=by simp;omega
   go_enter Tryz.func35,Tryz.ntmps35
   go_wp2
   all_goals (go_ret;exact⟨aM ZD3,BE⟩)
  ·
   have b26:decide (0≤p)=true:=by simp;omega
   have b27:decide (p≤200000)=true:=by simp;omega
   go_enter Tryz.func35,Tryz.ntmps35
   go_wp2
   all_goals (go_ret;exact⟨aM (by simp only[aB1];rw[if_neg AO,if_neg AO,if_neg AO,if_neg AO]),BE⟩)
 ·rcases (by omega:4000<n∨(n≤4000∧s≠0)∨(n≤4000∧s=0∧0<n)∨(n=0∧s=0∧p≠0)∨(n=0∧s=0∧p=0)) with g|⟨g,e⟩|⟨g,rfl,e⟩|⟨rfl,rfl,e⟩|⟨rfl,rfl,rfl⟩
  ·
   go_enter Tryz.func35,Tryz.ntmps35
   go_wp2
   all_goals (go_ret;exact⟨aM (by simp only[aB1];rw[if_neg AO,if_neg AO,if_pos AO]),BE⟩)
  ·
   have b28:(s != 0)=true:=by simp;omega
   go_enter Tryz.func35,Tryz.ntmps35
   go_wp2
   all_goals (go_ret;exact⟨aM ZD3,BE⟩)
  ·
   go_enter Tryz.func35,Tryz.ntmps35
   go_wp2
   all_goals (go_ret;exact⟨aM ZD3,BE⟩)
  ·
   have b29:(p != 0)=true:=by simp;omega
   go_enter Tryz.func35,Tryz.ntmps35
   go_wp2
   all_goals (go_ret;exact⟨aM ZD3,BE⟩)
  ·
   go_enter Tryz.func35,Tryz.ntmps35
   go_wp2
   all_goals (go_ret;exact⟨aM (by simp only[aB1];rw[if_neg AO,if_neg AO,if_neg AO,if_neg AO]),BE⟩)
 ·rcases (by omega:4000<n∨(n≤4000∧s≠0)∨(n≤4000∧s=0∧0<n)∨(n=0∧s=0∧p≠0)∨(n=0∧s=0∧p=0)) with g|⟨g,e⟩|⟨g,rfl,e⟩|⟨rfl,rfl,e⟩|⟨rfl,rfl,rfl⟩
  ·
   go_enter Tryz.func35,Tryz.ntmps35
   go_wp2
   all_goals (go_ret;exact⟨aM (by simp only[aB1];rw[if_neg AO,if_neg AO,if_pos AO]),BE⟩)
  ·
   have b30:(s != 0)=true:=by simp;omega
   go_enter Tryz.func35,Tryz.ntmps35
   go_wp2
   all_goals (go_ret;exact⟨aM ZD3,BE⟩)
  ·
   go_enter Tryz.func35,Tryz.ntmps35
   go_wp2
   all_goals (go_ret;exact⟨aM ZD3,BE⟩)
  ·
   have b31:(p != 0)=true:=by simp;omega
   go_enter Tryz.func35,Tryz.ntmps35
   go_wp2
   all_goals (go_ret;exact⟨aM ZD3,BE⟩)
  ·
   go_enter Tryz.func35,Tryz.ntmps35
   go_wp2
   all_goals (go_ret;exact⟨aM (by simp only[aB1];rw[if_neg AO,if_neg AO,if_neg AO,if_neg AO]),BE⟩)
def bS0 (n t:Int):Bool:=decide (0≤t∧t≤n∧n - t<6)
theorem cS4 (w:World) (n t:Int) (hn:n≤9223372036854775807) :
  Calls Tryz.prog 120 #[.int .i64 n,.int .i64 t] w fun e w'=>e=.returned (.bool (bS0 n t))∧w=w':=by
 have hn':n≤9223372036854775807:=hn
 clear hn
 rcases (by omega:t<0∨(0≤t∧n<t)∨(0≤t∧t≤n∧n - t<6)∨(0≤t∧t≤n∧¬ n - t<6)) with h|⟨h,h'⟩|⟨h,h',h''⟩|⟨h,h',h''⟩
 all_goals
  go_enter Tryz.func120,Tryz.ntmps120
  go_wp2
  go_ret
  exact⟨aC9 (by unfold bS0;symm;first|exact decide_eq_true AO|exact decide_eq_false AO),rfl⟩
end Go.Proofs.YtablgnacmpcfeaaGreatDoor
