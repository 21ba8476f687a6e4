/- The types of the seat, as the library wants them. Conditions: none. -/
import Derived.Test.YthidohmobbomfaaGreatGxHo
import Derived.Test.YthidohmobbomfaaGreatGxSo
import Derived.Test.YthidohmobbomfaaGreatSh
import Derived.Test.YthidohmobbomfaaGreatProg
set_option linter.unusedVariables false
set_option linter.unusedSimpArgs false
namespace Go.Gx.Px
open Go.Proofs
theorem hmix:Tryz.prog.follows .mixedOrders=true:=by kernel_rfl
theorem ty3:Ty Tryz.prog 3 Int:=⟨Tryz.isAgg3,Tryz.sizeOf3,Tryz.t3,_,by kernel_rfl,rfl,by decide,rfl,rfl⟩
theorem ty5:Ty Tryz.prog 5 UInt8:=⟨Tryz.isAgg5,Tryz.sizeOf5,Tryz.t5,_,by kernel_rfl,rfl,by decide,rfl,rfl⟩
theorem ty24:Ty Tryz.prog 24 (List Int):=⟨Tryz.isAgg24,Tryz.sizeOf24,Tryz.t24,_,by kernel_rfl,rfl,by decide,rfl,rfl⟩
theorem ty25:Ty Tryz.prog 25 (List (Int × (List Int) × Int × Int × Int)):=⟨Tryz.isAgg25,Tryz.sizeOf25,Tryz.t25,_,by kernel_rfl,rfl,by decide,rfl,rfl⟩
theorem ty26:Ty Tryz.prog 26 (List ((Int × (List Int)) × (List (Int × (List Int))))):=⟨Tryz.isAgg26,Tryz.sizeOf26,Tryz.t26,_,by kernel_rfl,rfl,by decide,rfl,rfl⟩
theorem ty35:Ty Tryz.prog 35 (List (Int × (List Int))):=⟨Tryz.isAgg35,Tryz.sizeOf35,Tryz.t35,_,by kernel_rfl,rfl,by decide,rfl,rfl⟩
theorem ty77:Ty Tryz.prog 77 (Int × (List Int)):=⟨Tryz.isAgg77,Tryz.sizeOf77,Tryz.t77,_,by kernel_rfl,rfl,by decide,rfl,rfl⟩
theorem ty84:Ty Tryz.prog 84 ((Int × (List Int)) × (List (Int × (List Int)))):=⟨Tryz.isAgg84,Tryz.sizeOf84,Tryz.t84,_,by kernel_rfl,rfl,by decide,rfl,rfl⟩
theorem ty93:Ty Tryz.prog 93 (Int × (List Int)):=⟨Tryz.isAgg93,Tryz.sizeOf93,Tryz.t93,_,by kernel_rfl,rfl,by decide,rfl,rfl⟩
theorem ty110:Ty Tryz.prog 110 (Int × (List Int) × Int × Int × Int):=⟨Tryz.isAgg110,Tryz.sizeOf110,Tryz.t110,_,by kernel_rfl,rfl,by decide,rfl,rfl⟩
theorem ty149:Ty Tryz.prog 149 ((List Int) × (List Int)):=⟨Tryz.isAgg149,Tryz.sizeOf149,Tryz.t149,_,by kernel_rfl,rfl,by decide,rfl,rfl⟩
theorem ro_st43 {D:List Nat} {w:World} {v:Value} {a:((List Int) × (List (Int × (List Int))))} (h:RO D w v a):∃v1,∃v2,v=.agg #[v1,v2]∧RO D w v1 a.1∧RO D w v2 a.2:=by
  obtain ⟨F,⟨cs,rfl,h⟩,hD⟩:=h
  obtain ⟨c1,c2,F1,F2,rfl,rfl,h_0,h_r0⟩:=h
  obtain ⟨p1,cap1,rfl,q1⟩:=h_0
  obtain ⟨p2,cap2,rfl,q2⟩:=h_r0
  refine ⟨_,_,rfl,?_,?_⟩
  · exact ⟨_,⟨[_],rfl,p1,cap1,rfl,q1⟩,fun b hb=>hD b (by simp [hb])⟩
  · exact ⟨_,⟨[_],rfl,p2,cap2,rfl,q2⟩,fun b hb=>hD b (by simp [hb])⟩
theorem own_st43 {D:List Nat} {w0 w:World} {As:List Item} (v0:Value) (x0:(List Int)) (v1:Value) (x1:(List (Int × (List Int)))) (h:Ctx D w0 w (Item.own v0 x0::Item.own v1 x1::As)):Ctx D w0 w (Item.own (.agg #[v0,v1]) ((x0,x1):((List Int) × (List (Int × (List Int)))))::As):=by
  obtain ⟨k,Gs,hrest,h4,h5⟩:=h
  obtain ⟨F0,Gs,rfl,⟨c0,rfl,p0,cap0,rfl,q0⟩,hrest⟩:=hrest
  obtain ⟨F1,Gs,rfl,⟨c1,rfl,p1,cap1,rfl,q1⟩,hrest⟩:=hrest
  exact ⟨k,_::Gs,⟨_,Gs,rfl,⟨[_,_],rfl,⟨_,_,_,_,rfl,rfl,⟨_,_,rfl,q0⟩,⟨_,_,rfl,q1⟩⟩⟩,hrest⟩,by simpa using h4,fun b hb=>h5 b (by simpa using hb)⟩
theorem st43_own {D:List Nat} {w0 w:World} {As:List Item} {v:Value} {a:((List Int) × (List (Int × (List Int))))} (h:Ctx D w0 w (Item.own v a::As)):∃v0,∃v1,v=.agg #[v0,v1]∧Ctx D w0 w (Item.own v0 a.1::Item.own v1 a.2::As):=by
  obtain ⟨k,_,⟨F,Gs,rfl,⟨cs,rfl,h⟩,hrest⟩,h4,h5⟩:=h
  obtain ⟨c1,c2,Gh_0,Hh_0,rfl,rfl,h_0,h_r0⟩:=h
  obtain ⟨p0,cap0,rfl,q0⟩:=h_0
  obtain ⟨p1,cap1,rfl,q1⟩:=h_r0
  exact ⟨_,_,rfl,k,_,⟨_,_,rfl,⟨[_],rfl,p0,cap0,rfl,q0⟩,⟨_,_,rfl,⟨[_],rfl,p1,cap1,rfl,q1⟩,hrest⟩⟩,by simpa using h4,fun b hb=>h5 b (by simpa using hb)⟩
theorem ro_st77 {D:List Nat} {w:World} {v:Value} {a:(Int × (List Int))} (h:RO D w v a):∃v1,v=.agg #[.int .i64 a.1,v1]∧RO D w v1 a.2:=by
  obtain ⟨F,⟨cs,rfl,h⟩,hD⟩:=h
  obtain ⟨c1,c2,F1,F2,rfl,rfl,h_0,h_r0⟩:=h
  obtain ⟨rfl,rfl⟩:=h_0
  obtain ⟨p1,cap1,rfl,q1⟩:=h_r0
  refine ⟨_,rfl,?_⟩
  · exact ⟨_,⟨[_],rfl,p1,cap1,rfl,q1⟩,fun b hb=>hD b (by simp [hb])⟩
theorem own_st77 {D:List Nat} {w0 w:World} {As:List Item} (x0:Int) (v1:Value) (x1:(List Int)) (h:Ctx D w0 w (Item.own v1 x1::As)):Ctx D w0 w (Item.own (.agg #[.int .i64 x0,v1]) ((x0,x1):(Int × (List Int)))::As):=by
  obtain ⟨k,Gs,hrest,h4,h5⟩:=h
  obtain ⟨F1,Gs,rfl,⟨c1,rfl,p1,cap1,rfl,q1⟩,hrest⟩:=hrest
  exact ⟨k,_::Gs,⟨_,Gs,rfl,⟨[_,_],rfl,⟨_,_,_,_,rfl,rfl,⟨rfl,rfl⟩,⟨_,_,rfl,q1⟩⟩⟩,hrest⟩,by simpa using h4,fun b hb=>h5 b (by simpa using hb)⟩
theorem st77_own {D:List Nat} {w0 w:World} {As:List Item} {v:Value} {a:(Int × (List Int))} (h:Ctx D w0 w (Item.own v a::As)):∃v1,v=.agg #[.int .i64 a.1,v1]∧Ctx D w0 w (Item.own v1 a.2::As):=by
  obtain ⟨k,_,⟨F,Gs,rfl,⟨cs,rfl,h⟩,hrest⟩,h4,h5⟩:=h
  obtain ⟨c1,c2,Gh_0,Hh_0,rfl,rfl,h_0,h_r0⟩:=h
  obtain ⟨rfl,rfl⟩:=h_0
  obtain ⟨p1,cap1,rfl,q1⟩:=h_r0
  exact ⟨_,rfl,k,_,⟨_,_,rfl,⟨[_],rfl,p1,cap1,rfl,q1⟩,hrest⟩,by simpa using h4,fun b hb=>h5 b (by simpa using hb)⟩
theorem ro_st82 {D:List Nat} {w:World} {v:Value} {a:(Int × (List Int))} (h:RO D w v a):∃v1,v=.agg #[.int .i64 a.1,v1]∧RO D w v1 a.2:=by
  obtain ⟨F,⟨cs,rfl,h⟩,hD⟩:=h
  obtain ⟨c1,c2,F1,F2,rfl,rfl,h_0,h_r0⟩:=h
  obtain ⟨rfl,rfl⟩:=h_0
  obtain ⟨p1,cap1,rfl,q1⟩:=h_r0
  refine ⟨_,rfl,?_⟩
  · exact ⟨_,⟨[_],rfl,p1,cap1,rfl,q1⟩,fun b hb=>hD b (by simp [hb])⟩
theorem own_st82 {D:List Nat} {w0 w:World} {As:List Item} (x0:Int) (v1:Value) (x1:(List Int)) (h:Ctx D w0 w (Item.own v1 x1::As)):Ctx D w0 w (Item.own (.agg #[.int .i64 x0,v1]) ((x0,x1):(Int × (List Int)))::As):=by
  obtain ⟨k,Gs,hrest,h4,h5⟩:=h
  obtain ⟨F1,Gs,rfl,⟨c1,rfl,p1,cap1,rfl,q1⟩,hrest⟩:=hrest
  exact ⟨k,_::Gs,⟨_,Gs,rfl,⟨[_,_],rfl,⟨_,_,_,_,rfl,rfl,⟨rfl,rfl⟩,⟨_,_,rfl,q1⟩⟩⟩,hrest⟩,by simpa using h4,fun b hb=>h5 b (by simpa using hb)⟩
theorem st82_own {D:List Nat} {w0 w:World} {As:List Item} {v:Value} {a:(Int × (List Int))} (h:Ctx D w0 w (Item.own v a::As)):∃v1,v=.agg #[.int .i64 a.1,v1]∧Ctx D w0 w (Item.own v1 a.2::As):=by
  obtain ⟨k,_,⟨F,Gs,rfl,⟨cs,rfl,h⟩,hrest⟩,h4,h5⟩:=h
  obtain ⟨c1,c2,Gh_0,Hh_0,rfl,rfl,h_0,h_r0⟩:=h
  obtain ⟨rfl,rfl⟩:=h_0
  obtain ⟨p1,cap1,rfl,q1⟩:=h_r0
  exact ⟨_,rfl,k,_,⟨_,_,rfl,⟨[_],rfl,p1,cap1,rfl,q1⟩,hrest⟩,by simpa using h4,fun b hb=>h5 b (by simpa using hb)⟩
theorem ro_st84 {D:List Nat} {w:World} {v:Value} {a:((Int × (List Int)) × (List (Int × (List Int))))} (h:RO D w v a):∃v1,∃v2,v=.agg #[.int .i64 a.1.1,v1,v2]∧RO D w v1 a.1.2∧RO D w v2 a.2:=by
  obtain ⟨F,⟨cs,rfl,h⟩,hD⟩:=h
  obtain ⟨c1,c2,F1,F2,rfl,rfl,h_0,h_r0⟩:=h
  obtain ⟨c1,c2,F1,F2,rfl,rfl,h_0_0,h_0_r0⟩:=h_0
  obtain ⟨rfl,rfl⟩:=h_0_0
  obtain ⟨p1,cap1,rfl,q1⟩:=h_0_r0
  obtain ⟨p2,cap2,rfl,q2⟩:=h_r0
  refine ⟨_,_,rfl,?_,?_⟩
  · exact ⟨_,⟨[_],rfl,p1,cap1,rfl,q1⟩,fun b hb=>hD b (by simp [hb])⟩
  · exact ⟨_,⟨[_],rfl,p2,cap2,rfl,q2⟩,fun b hb=>hD b (by simp [hb])⟩
theorem own_st84 {D:List Nat} {w0 w:World} {As:List Item} (x0:Int) (v1:Value) (x1:(List Int)) (v2:Value) (x2:(List (Int × (List Int)))) (h:Ctx D w0 w (Item.own v1 x1::Item.own v2 x2::As)):Ctx D w0 w (Item.own (.agg #[.int .i64 x0,v1,v2]) (((x0,x1),x2):((Int × (List Int)) × (List (Int × (List Int)))))::As):=by
  obtain ⟨k,Gs,hrest,h4,h5⟩:=h
  obtain ⟨F1,Gs,rfl,⟨c1,rfl,p1,cap1,rfl,q1⟩,hrest⟩:=hrest
  obtain ⟨F2,Gs,rfl,⟨c2,rfl,p2,cap2,rfl,q2⟩,hrest⟩:=hrest
  exact ⟨k,_::Gs,⟨_,Gs,rfl,⟨[_,_,_],rfl,⟨_,_,_,_,rfl,rfl,⟨_,_,_,_,rfl,rfl,⟨rfl,rfl⟩,⟨_,_,rfl,q1⟩⟩,⟨_,_,rfl,q2⟩⟩⟩,hrest⟩,by simpa using h4,fun b hb=>h5 b (by simpa using hb)⟩
theorem st84_own {D:List Nat} {w0 w:World} {As:List Item} {v:Value} {a:((Int × (List Int)) × (List (Int × (List Int))))} (h:Ctx D w0 w (Item.own v a::As)):∃v1,∃v2,v=.agg #[.int .i64 a.1.1,v1,v2]∧Ctx D w0 w (Item.own v1 a.1.2::Item.own v2 a.2::As):=by
  obtain ⟨k,_,⟨F,Gs,rfl,⟨cs,rfl,h⟩,hrest⟩,h4,h5⟩:=h
  obtain ⟨c1,c2,Gh_0,Hh_0,rfl,rfl,h_0,h_r0⟩:=h
  obtain ⟨c1,c2,Gh_0_0,Hh_0_0,rfl,rfl,h_0_0,h_0_r0⟩:=h_0
  obtain ⟨rfl,rfl⟩:=h_0_0
  obtain ⟨p1,cap1,rfl,q1⟩:=h_0_r0
  obtain ⟨p2,cap2,rfl,q2⟩:=h_r0
  exact ⟨_,_,rfl,k,_,⟨_,_,rfl,⟨[_],rfl,p1,cap1,rfl,q1⟩,⟨_,_,rfl,⟨[_],rfl,p2,cap2,rfl,q2⟩,hrest⟩⟩,by simpa using h4,fun b hb=>h5 b (by simpa using hb)⟩
theorem ro_st93 {D:List Nat} {w:World} {v:Value} {a:(Int × (List Int))} (h:RO D w v a):∃v1,v=.agg #[.int .i64 a.1,v1]∧RO D w v1 a.2:=by
  obtain ⟨F,⟨cs,rfl,h⟩,hD⟩:=h
  obtain ⟨c1,c2,F1,F2,rfl,rfl,h_0,h_r0⟩:=h
  obtain ⟨rfl,rfl⟩:=h_0
  obtain ⟨p1,cap1,rfl,q1⟩:=h_r0
  refine ⟨_,rfl,?_⟩
  · exact ⟨_,⟨[_],rfl,p1,cap1,rfl,q1⟩,fun b hb=>hD b (by simp [hb])⟩
theorem own_st93 {D:List Nat} {w0 w:World} {As:List Item} (x0:Int) (v1:Value) (x1:(List Int)) (h:Ctx D w0 w (Item.own v1 x1::As)):Ctx D w0 w (Item.own (.agg #[.int .i64 x0,v1]) ((x0,x1):(Int × (List Int)))::As):=by
  obtain ⟨k,Gs,hrest,h4,h5⟩:=h
  obtain ⟨F1,Gs,rfl,⟨c1,rfl,p1,cap1,rfl,q1⟩,hrest⟩:=hrest
  exact ⟨k,_::Gs,⟨_,Gs,rfl,⟨[_,_],rfl,⟨_,_,_,_,rfl,rfl,⟨rfl,rfl⟩,⟨_,_,rfl,q1⟩⟩⟩,hrest⟩,by simpa using h4,fun b hb=>h5 b (by simpa using hb)⟩
theorem st93_own {D:List Nat} {w0 w:World} {As:List Item} {v:Value} {a:(Int × (List Int))} (h:Ctx D w0 w (Item.own v a::As)):∃v1,v=.agg #[.int .i64 a.1,v1]∧Ctx D w0 w (Item.own v1 a.2::As):=by
  obtain ⟨k,_,⟨F,Gs,rfl,⟨cs,rfl,h⟩,hrest⟩,h4,h5⟩:=h
  obtain ⟨c1,c2,Gh_0,Hh_0,rfl,rfl,h_0,h_r0⟩:=h
  obtain ⟨rfl,rfl⟩:=h_0
  obtain ⟨p1,cap1,rfl,q1⟩:=h_r0
  exact ⟨_,rfl,k,_,⟨_,_,rfl,⟨[_],rfl,p1,cap1,rfl,q1⟩,hrest⟩,by simpa using h4,fun b hb=>h5 b (by simpa using hb)⟩
theorem ro_st110 {D:List Nat} {w:World} {v:Value} {a:(Int × (List Int) × Int × Int × Int)} (h:RO D w v a):∃v1,v=.agg #[.int .i64 a.1,v1,.int .i64 a.2.2.1,.int .i64 a.2.2.2.1,.int .i64 a.2.2.2.2]∧RO D w v1 a.2.1:=by
  obtain ⟨F,⟨cs,rfl,h⟩,hD⟩:=h
  obtain ⟨c1,c2,F1,F2,rfl,rfl,h_0,h_r0⟩:=h
  obtain ⟨rfl,rfl⟩:=h_0
  obtain ⟨c1,c2,F1,F2,rfl,rfl,h_1,h_r1⟩:=h_r0
  obtain ⟨p1,cap1,rfl,q1⟩:=h_1
  obtain ⟨c1,c2,F1,F2,rfl,rfl,h_2,h_r2⟩:=h_r1
  obtain ⟨rfl,rfl⟩:=h_2
  obtain ⟨c1,c2,F1,F2,rfl,rfl,h_3,h_r3⟩:=h_r2
  obtain ⟨rfl,rfl⟩:=h_3
  obtain ⟨rfl,rfl⟩:=h_r3
  refine ⟨_,rfl,?_⟩
  · exact ⟨_,⟨[_],rfl,p1,cap1,rfl,q1⟩,fun b hb=>hD b (by simp [hb])⟩
theorem own_st110 {D:List Nat} {w0 w:World} {As:List Item} (x0:Int) (v1:Value) (x1:(List Int)) (x2:Int) (x3:Int) (x4:Int) (h:Ctx D w0 w (Item.own v1 x1::As)):Ctx D w0 w (Item.own (.agg #[.int .i64 x0,v1,.int .i64 x2,.int .i64 x3,.int .i64 x4]) ((x0,x1,x2,x3,x4):(Int × (List Int) × Int × Int × Int))::As):=by
  obtain ⟨k,Gs,hrest,h4,h5⟩:=h
  obtain ⟨F1,Gs,rfl,⟨c1,rfl,p1,cap1,rfl,q1⟩,hrest⟩:=hrest
  exact ⟨k,_::Gs,⟨_,Gs,rfl,⟨[_,_,_,_,_],rfl,⟨_,_,_,_,rfl,rfl,⟨rfl,rfl⟩,⟨_,_,_,_,rfl,rfl,⟨_,_,rfl,q1⟩,⟨_,_,_,_,rfl,rfl,⟨rfl,rfl⟩,⟨_,_,_,_,rfl,rfl,⟨rfl,rfl⟩,⟨rfl,rfl⟩⟩⟩⟩⟩⟩,hrest⟩,by simpa using h4,fun b hb=>h5 b (by simpa using hb)⟩
theorem st110_own {D:List Nat} {w0 w:World} {As:List Item} {v:Value} {a:(Int × (List Int) × Int × Int × Int)} (h:Ctx D w0 w (Item.own v a::As)):∃v1,v=.agg #[.int .i64 a.1,v1,.int .i64 a.2.2.1,.int .i64 a.2.2.2.1,.int .i64 a.2.2.2.2]∧Ctx D w0 w (Item.own v1 a.2.1::As):=by
  obtain ⟨k,_,⟨F,Gs,rfl,⟨cs,rfl,h⟩,hrest⟩,h4,h5⟩:=h
  obtain ⟨c1,c2,Gh_0,Hh_0,rfl,rfl,h_0,h_r0⟩:=h
  obtain ⟨rfl,rfl⟩:=h_0
  obtain ⟨c1,c2,Gh_1,Hh_1,rfl,rfl,h_1,h_r1⟩:=h_r0
  obtain ⟨p1,cap1,rfl,q1⟩:=h_1
  obtain ⟨c1,c2,Gh_2,Hh_2,rfl,rfl,h_2,h_r2⟩:=h_r1
  obtain ⟨rfl,rfl⟩:=h_2
  obtain ⟨c1,c2,Gh_3,Hh_3,rfl,rfl,h_3,h_r3⟩:=h_r2
  obtain ⟨rfl,rfl⟩:=h_3
  obtain ⟨rfl,rfl⟩:=h_r3
  exact ⟨_,rfl,k,_,⟨_,_,rfl,⟨[_],rfl,p1,cap1,rfl,q1⟩,hrest⟩,by simpa using h4,fun b hb=>h5 b (by simpa using hb)⟩
theorem ro_st149 {D:List Nat} {w:World} {v:Value} {a:((List Int) × (List Int))} (h:RO D w v a):∃v1,∃v2,v=.agg #[v1,v2]∧RO D w v1 a.1∧RO D w v2 a.2:=by
  obtain ⟨F,⟨cs,rfl,h⟩,hD⟩:=h
  obtain ⟨c1,c2,F1,F2,rfl,rfl,h_0,h_r0⟩:=h
  obtain ⟨p1,cap1,rfl,q1⟩:=h_0
  obtain ⟨p2,cap2,rfl,q2⟩:=h_r0
  refine ⟨_,_,rfl,?_,?_⟩
  · exact ⟨_,⟨[_],rfl,p1,cap1,rfl,q1⟩,fun b hb=>hD b (by simp [hb])⟩
  · exact ⟨_,⟨[_],rfl,p2,cap2,rfl,q2⟩,fun b hb=>hD b (by simp [hb])⟩
theorem own_st149 {D:List Nat} {w0 w:World} {As:List Item} (v0:Value) (x0:(List Int)) (v1:Value) (x1:(List Int)) (h:Ctx D w0 w (Item.own v0 x0::Item.own v1 x1::As)):Ctx D w0 w (Item.own (.agg #[v0,v1]) ((x0,x1):((List Int) × (List Int)))::As):=by
  obtain ⟨k,Gs,hrest,h4,h5⟩:=h
  obtain ⟨F0,Gs,rfl,⟨c0,rfl,p0,cap0,rfl,q0⟩,hrest⟩:=hrest
  obtain ⟨F1,Gs,rfl,⟨c1,rfl,p1,cap1,rfl,q1⟩,hrest⟩:=hrest
  exact ⟨k,_::Gs,⟨_,Gs,rfl,⟨[_,_],rfl,⟨_,_,_,_,rfl,rfl,⟨_,_,rfl,q0⟩,⟨_,_,rfl,q1⟩⟩⟩,hrest⟩,by simpa using h4,fun b hb=>h5 b (by simpa using hb)⟩
theorem st149_own {D:List Nat} {w0 w:World} {As:List Item} {v:Value} {a:((List Int) × (List Int))} (h:Ctx D w0 w (Item.own v a::As)):∃v0,∃v1,v=.agg #[v0,v1]∧Ctx D w0 w (Item.own v0 a.1::Item.own v1 a.2::As):=by
  obtain ⟨k,_,⟨F,Gs,rfl,⟨cs,rfl,h⟩,hrest⟩,h4,h5⟩:=h
  obtain ⟨c1,c2,Gh_0,Hh_0,rfl,rfl,h_0,h_r0⟩:=h
  obtain ⟨p0,cap0,rfl,q0⟩:=h_0
  obtain ⟨p1,cap1,rfl,q1⟩:=h_r0
  exact ⟨_,_,rfl,k,_,⟨_,_,rfl,⟨[_],rfl,p0,cap0,rfl,q0⟩,⟨_,_,rfl,⟨[_],rfl,p1,cap1,rfl,q1⟩,hrest⟩⟩,by simpa using h4,fun b hb=>h5 b (by simpa using hb)⟩
theorem zero24:∀w,(zeroValue 24).run Tryz.prog w=.ok ((.slice none 0 0)) w:=zero_run (i:=Tryz.t24) (by kernel_rfl) rfl
theorem zc24:∀i z,Tryz.prog.info? 24=some i→i.zero=some z→z.cells.toList=[(.slice none 0 0)]:=zc_of (i:=Tryz.t24) (by kernel_rfl) rfl rfl
theorem zr24:∀w,Rep.rep true w [(.slice none 0 0)] (([]:(List Int)):(List Int)) []:=fun w=>(by exact ⟨_,_,rfl,by simp,by simp [maxLen],.inl ⟨rfl,rfl,rfl,rfl⟩⟩)
theorem zero43:∀w,(zeroValue 43).run Tryz.prog w=.ok (.agg #[(.slice none 0 0),(.slice none 0 0)]) w:=zero_run (i:=Tryz.t43) (by kernel_rfl) rfl
theorem zc43:∀i z,Tryz.prog.info? 43=some i→i.zero=some z→z.cells.toList=[(.slice none 0 0),(.slice none 0 0)]:=zc_of (i:=Tryz.t43) (by kernel_rfl) rfl rfl
theorem zr43:∀w,Rep.rep true w [(.slice none 0 0),(.slice none 0 0)] (([],[]):((List Int) × (List (Int × (List Int))))) []:=fun w=>⟨_,_,[],[],rfl,rfl,(by exact ⟨_,_,rfl,by simp,by simp [maxLen],.inl ⟨rfl,rfl,rfl,rfl⟩⟩),(by exact ⟨_,_,rfl,by simp,by simp [maxLen],.inl ⟨rfl,rfl,rfl,rfl⟩⟩)⟩
theorem zero77:∀w,(zeroValue 77).run Tryz.prog w=.ok (.agg #[(.int .i64 0),(.slice none 0 0)]) w:=zero_run (i:=Tryz.t77) (by kernel_rfl) rfl
theorem zc77:∀i z,Tryz.prog.info? 77=some i→i.zero=some z→z.cells.toList=[(.int .i64 0),(.slice none 0 0)]:=zc_of (i:=Tryz.t77) (by kernel_rfl) rfl rfl
theorem zr77:∀w,Rep.rep true w [(.int .i64 0),(.slice none 0 0)] ((0,[]):(Int × (List Int))) []:=fun w=>⟨_,_,[],[],rfl,rfl,⟨rfl,rfl⟩,(by exact ⟨_,_,rfl,by simp,by simp [maxLen],.inl ⟨rfl,rfl,rfl,rfl⟩⟩)⟩
theorem zero82:∀w,(zeroValue 82).run Tryz.prog w=.ok (.agg #[(.int .i64 0),(.slice none 0 0)]) w:=zero_run (i:=Tryz.t82) (by kernel_rfl) rfl
theorem zc82:∀i z,Tryz.prog.info? 82=some i→i.zero=some z→z.cells.toList=[(.int .i64 0),(.slice none 0 0)]:=zc_of (i:=Tryz.t82) (by kernel_rfl) rfl rfl
theorem zr82:∀w,Rep.rep true w [(.int .i64 0),(.slice none 0 0)] ((0,[]):(Int × (List Int))) []:=fun w=>⟨_,_,[],[],rfl,rfl,⟨rfl,rfl⟩,(by exact ⟨_,_,rfl,by simp,by simp [maxLen],.inl ⟨rfl,rfl,rfl,rfl⟩⟩)⟩
theorem zero84:∀w,(zeroValue 84).run Tryz.prog w=.ok (.agg #[(.int .i64 0),(.slice none 0 0),(.slice none 0 0)]) w:=zero_run (i:=Tryz.t84) (by kernel_rfl) rfl
theorem zc84:∀i z,Tryz.prog.info? 84=some i→i.zero=some z→z.cells.toList=[(.int .i64 0),(.slice none 0 0),(.slice none 0 0)]:=zc_of (i:=Tryz.t84) (by kernel_rfl) rfl rfl
theorem zr84:∀w,Rep.rep true w [(.int .i64 0),(.slice none 0 0),(.slice none 0 0)] (((0,[]),[]):((Int × (List Int)) × (List (Int × (List Int))))) []:=fun w=>⟨_,_,[],[],rfl,rfl,⟨_,_,[],[],rfl,rfl,⟨rfl,rfl⟩,(by exact ⟨_,_,rfl,by simp,by simp [maxLen],.inl ⟨rfl,rfl,rfl,rfl⟩⟩)⟩,(by exact ⟨_,_,rfl,by simp,by simp [maxLen],.inl ⟨rfl,rfl,rfl,rfl⟩⟩)⟩
theorem zero93:∀w,(zeroValue 93).run Tryz.prog w=.ok (.agg #[(.int .i64 0),(.slice none 0 0)]) w:=zero_run (i:=Tryz.t93) (by kernel_rfl) rfl
theorem zc93:∀i z,Tryz.prog.info? 93=some i→i.zero=some z→z.cells.toList=[(.int .i64 0),(.slice none 0 0)]:=zc_of (i:=Tryz.t93) (by kernel_rfl) rfl rfl
theorem zr93:∀w,Rep.rep true w [(.int .i64 0),(.slice none 0 0)] ((0,[]):(Int × (List Int))) []:=fun w=>⟨_,_,[],[],rfl,rfl,⟨rfl,rfl⟩,(by exact ⟨_,_,rfl,by simp,by simp [maxLen],.inl ⟨rfl,rfl,rfl,rfl⟩⟩)⟩
theorem zero110:∀w,(zeroValue 110).run Tryz.prog w=.ok (.agg #[(.int .i64 0),(.slice none 0 0),(.int .i64 0),(.int .i64 0),(.int .i64 0)]) w:=zero_run (i:=Tryz.t110) (by kernel_rfl) rfl
theorem zc110:∀i z,Tryz.prog.info? 110=some i→i.zero=some z→z.cells.toList=[(.int .i64 0),(.slice none 0 0),(.int .i64 0),(.int .i64 0),(.int .i64 0)]:=zc_of (i:=Tryz.t110) (by kernel_rfl) rfl rfl
theorem zr110:∀w,Rep.rep true w [(.int .i64 0),(.slice none 0 0),(.int .i64 0),(.int .i64 0),(.int .i64 0)] ((0,[],0,0,0):(Int × (List Int) × Int × Int × Int)) []:=fun w=>⟨_,_,[],[],rfl,rfl,⟨rfl,rfl⟩,⟨_,_,[],[],rfl,rfl,(by exact ⟨_,_,rfl,by simp,by simp [maxLen],.inl ⟨rfl,rfl,rfl,rfl⟩⟩),⟨_,_,[],[],rfl,rfl,⟨rfl,rfl⟩,⟨_,_,[],[],rfl,rfl,⟨rfl,rfl⟩,⟨rfl,rfl⟩⟩⟩⟩⟩
theorem zero149:∀w,(zeroValue 149).run Tryz.prog w=.ok (.agg #[(.slice none 0 0),(.slice none 0 0)]) w:=zero_run (i:=Tryz.t149) (by kernel_rfl) rfl
theorem zc149:∀i z,Tryz.prog.info? 149=some i→i.zero=some z→z.cells.toList=[(.slice none 0 0),(.slice none 0 0)]:=zc_of (i:=Tryz.t149) (by kernel_rfl) rfl rfl
theorem zr149:∀w,Rep.rep true w [(.slice none 0 0),(.slice none 0 0)] (([],[]):((List Int) × (List Int))) []:=fun w=>⟨_,_,[],[],rfl,rfl,(by exact ⟨_,_,rfl,by simp,by simp [maxLen],.inl ⟨rfl,rfl,rfl,rfl⟩⟩),(by exact ⟨_,_,rfl,by simp,by simp [maxLen],.inl ⟨rfl,rfl,rfl,rfl⟩⟩)⟩
theorem built43 :Tryz.prog.built 43 []=some #[(.slice none 0 0),(.slice none 0 0)] :=
  built_of (i:=Tryz.t43) (z:=[(.slice none 0 0),(.slice none 0 0)]) (places:=[(0,1),(1,1)]) (by kernel_rfl) Tryz.underlying43 rfl rfl (by kernel_rfl) fill_end
theorem built43_1 {u1:Value} {y1_0:Value} (h1:u1.cells.toList=[y1_0]):Tryz.prog.built 43 [(1,u1)]=some #[(.slice none 0 0),y1_0] :=
  built_of (i:=Tryz.t43) (z:=[(.slice none 0 0),(.slice none 0 0)]) (places:=[(0,1),(1,1)]) (by kernel_rfl) Tryz.underlying43 rfl rfl (by kernel_rfl) (fill_step (cells':=[(.slice none 0 0),y1_0]) (off:=1) rfl h1 rfl rfl fill_end)
theorem built77_0 {u0:Value} {y0_0:Value} (h0:u0.cells.toList=[y0_0]):Tryz.prog.built 77 [(0,u0)]=some #[y0_0,(.slice none 0 0)] :=
  built_of (i:=Tryz.t77) (z:=[(.int .i64 0),(.slice none 0 0)]) (places:=[(0,1),(1,1)]) (by kernel_rfl) Tryz.underlying77 rfl rfl (by kernel_rfl) (fill_step (cells':=[y0_0,(.slice none 0 0)]) (off:=0) rfl h0 rfl rfl fill_end)
theorem built77_0_1 {u0 u1:Value} {y0_0 y1_0:Value} (h0:u0.cells.toList=[y0_0]) (h1:u1.cells.toList=[y1_0]):Tryz.prog.built 77 [(0,u0),(1,u1)]=some #[y0_0,y1_0] :=
  built_of (i:=Tryz.t77) (z:=[(.int .i64 0),(.slice none 0 0)]) (places:=[(0,1),(1,1)]) (by kernel_rfl) Tryz.underlying77 rfl rfl (by kernel_rfl) (fill_step (cells':=[y0_0,(.slice none 0 0)]) (off:=0) rfl h0 rfl rfl (fill_step (cells':=[y0_0,y1_0]) (off:=1) rfl h1 rfl rfl fill_end))
theorem built77_1 {u1:Value} {y1_0:Value} (h1:u1.cells.toList=[y1_0]):Tryz.prog.built 77 [(1,u1)]=some #[(.int .i64 0),y1_0] :=
  built_of (i:=Tryz.t77) (z:=[(.int .i64 0),(.slice none 0 0)]) (places:=[(0,1),(1,1)]) (by kernel_rfl) Tryz.underlying77 rfl rfl (by kernel_rfl) (fill_step (cells':=[(.int .i64 0),y1_0]) (off:=1) rfl h1 rfl rfl fill_end)
theorem built82 :Tryz.prog.built 82 []=some #[(.int .i64 0),(.slice none 0 0)] :=
  built_of (i:=Tryz.t82) (z:=[(.int .i64 0),(.slice none 0 0)]) (places:=[(0,1),(1,1)]) (by kernel_rfl) Tryz.underlying82 rfl rfl (by kernel_rfl) fill_end
theorem built82_0 {u0:Value} {y0_0:Value} (h0:u0.cells.toList=[y0_0]):Tryz.prog.built 82 [(0,u0)]=some #[y0_0,(.slice none 0 0)] :=
  built_of (i:=Tryz.t82) (z:=[(.int .i64 0),(.slice none 0 0)]) (places:=[(0,1),(1,1)]) (by kernel_rfl) Tryz.underlying82 rfl rfl (by kernel_rfl) (fill_step (cells':=[y0_0,(.slice none 0 0)]) (off:=0) rfl h0 rfl rfl fill_end)
theorem built82_0_1 {u0 u1:Value} {y0_0 y1_0:Value} (h0:u0.cells.toList=[y0_0]) (h1:u1.cells.toList=[y1_0]):Tryz.prog.built 82 [(0,u0),(1,u1)]=some #[y0_0,y1_0] :=
  built_of (i:=Tryz.t82) (z:=[(.int .i64 0),(.slice none 0 0)]) (places:=[(0,1),(1,1)]) (by kernel_rfl) Tryz.underlying82 rfl rfl (by kernel_rfl) (fill_step (cells':=[y0_0,(.slice none 0 0)]) (off:=0) rfl h0 rfl rfl (fill_step (cells':=[y0_0,y1_0]) (off:=1) rfl h1 rfl rfl fill_end))
theorem built84_0_1 {u0 u1:Value} {y0_0 y0_1 y1_0:Value} (h0:u0.cells.toList=[y0_0,y0_1]) (h1:u1.cells.toList=[y1_0]):Tryz.prog.built 84 [(0,u0),(1,u1)]=some #[y0_0,y0_1,y1_0] :=
  built_of (i:=Tryz.t84) (z:=[(.int .i64 0),(.slice none 0 0),(.slice none 0 0)]) (places:=[(0,2),(2,1)]) (by kernel_rfl) Tryz.underlying84 rfl rfl (by kernel_rfl) (fill_step (cells':=[y0_0,y0_1,(.slice none 0 0)]) (off:=0) rfl h0 rfl rfl (fill_step (cells':=[y0_0,y0_1,y1_0]) (off:=2) rfl h1 rfl rfl fill_end))
theorem built93_0 {u0:Value} {y0_0:Value} (h0:u0.cells.toList=[y0_0]):Tryz.prog.built 93 [(0,u0)]=some #[y0_0,(.slice none 0 0)] :=
  built_of (i:=Tryz.t93) (z:=[(.int .i64 0),(.slice none 0 0)]) (places:=[(0,1),(1,1)]) (by kernel_rfl) Tryz.underlying93 rfl rfl (by kernel_rfl) (fill_step (cells':=[y0_0,(.slice none 0 0)]) (off:=0) rfl h0 rfl rfl fill_end)
theorem built93_1 {u1:Value} {y1_0:Value} (h1:u1.cells.toList=[y1_0]):Tryz.prog.built 93 [(1,u1)]=some #[(.int .i64 0),y1_0] :=
  built_of (i:=Tryz.t93) (z:=[(.int .i64 0),(.slice none 0 0)]) (places:=[(0,1),(1,1)]) (by kernel_rfl) Tryz.underlying93 rfl rfl (by kernel_rfl) (fill_step (cells':=[(.int .i64 0),y1_0]) (off:=1) rfl h1 rfl rfl fill_end)
theorem built110_0_2_3_4 {u0 u2 u3 u4:Value} {y0_0 y2_0 y3_0 y4_0:Value} (h0:u0.cells.toList=[y0_0]) (h2:u2.cells.toList=[y2_0]) (h3:u3.cells.toList=[y3_0]) (h4:u4.cells.toList=[y4_0]):Tryz.prog.built 110 [(0,u0),(2,u2),(3,u3),(4,u4)]=some #[y0_0,(.slice none 0 0),y2_0,y3_0,y4_0] :=
  built_of (i:=Tryz.t110) (z:=[(.int .i64 0),(.slice none 0 0),(.int .i64 0),(.int .i64 0),(.int .i64 0)]) (places:=[(0,1),(1,1),(2,1),(3,1),(4,1)]) (by kernel_rfl) Tryz.underlying110 rfl rfl (by kernel_rfl) (fill_step (cells':=[y0_0,(.slice none 0 0),(.int .i64 0),(.int .i64 0),(.int .i64 0)]) (off:=0) rfl h0 rfl rfl (fill_step (cells':=[y0_0,(.slice none 0 0),y2_0,(.int .i64 0),(.int .i64 0)]) (off:=2) rfl h2 rfl rfl (fill_step (cells':=[y0_0,(.slice none 0 0),y2_0,y3_0,(.int .i64 0)]) (off:=3) rfl h3 rfl rfl (fill_step (cells':=[y0_0,(.slice none 0 0),y2_0,y3_0,y4_0]) (off:=4) rfl h4 rfl rfl fill_end))))
theorem built110_4 {u4:Value} {y4_0:Value} (h4:u4.cells.toList=[y4_0]):Tryz.prog.built 110 [(4,u4)]=some #[(.int .i64 0),(.slice none 0 0),(.int .i64 0),(.int .i64 0),y4_0] :=
  built_of (i:=Tryz.t110) (z:=[(.int .i64 0),(.slice none 0 0),(.int .i64 0),(.int .i64 0),(.int .i64 0)]) (places:=[(0,1),(1,1),(2,1),(3,1),(4,1)]) (by kernel_rfl) Tryz.underlying110 rfl rfl (by kernel_rfl) (fill_step (cells':=[(.int .i64 0),(.slice none 0 0),(.int .i64 0),(.int .i64 0),y4_0]) (off:=4) rfl h4 rfl rfl fill_end)
theorem built133_0_2 {u0 u2:Value} {y0_0 y2_0:Value} (h0:u0.cells.toList=[y0_0]) (h2:u2.cells.toList=[y2_0]):Tryz.prog.built 133 [(0,u0),(2,u2)]=some #[y0_0,(.int .i64 0),y2_0] :=
  built_of (i:=Tryz.t133) (z:=[(.slice none 0 0),(.int .i64 0),(.int .i64 0)]) (places:=[(0,1),(1,1),(2,1)]) (by kernel_rfl) Tryz.underlying133 rfl rfl (by kernel_rfl) (fill_step (cells':=[y0_0,(.int .i64 0),(.int .i64 0)]) (off:=0) rfl h0 rfl rfl (fill_step (cells':=[y0_0,(.int .i64 0),y2_0]) (off:=2) rfl h2 rfl rfl fill_end))
theorem built149 :Tryz.prog.built 149 []=some #[(.slice none 0 0),(.slice none 0 0)] :=
  built_of (i:=Tryz.t149) (z:=[(.slice none 0 0),(.slice none 0 0)]) (places:=[(0,1),(1,1)]) (by kernel_rfl) Tryz.underlying149 rfl rfl (by kernel_rfl) fill_end
theorem built149_0_1 {u0 u1:Value} {y0_0 y1_0:Value} (h0:u0.cells.toList=[y0_0]) (h1:u1.cells.toList=[y1_0]):Tryz.prog.built 149 [(0,u0),(1,u1)]=some #[y0_0,y1_0] :=
  built_of (i:=Tryz.t149) (z:=[(.slice none 0 0),(.slice none 0 0)]) (places:=[(0,1),(1,1)]) (by kernel_rfl) Tryz.underlying149 rfl rfl (by kernel_rfl) (fill_step (cells':=[y0_0,(.slice none 0 0)]) (off:=0) rfl h0 rfl rfl (fill_step (cells':=[y0_0,y1_0]) (off:=1) rfl h1 rfl rfl fill_end))
end Go.Gx.Px
