import Derived.Test.YtgcpdfihjmmggaaGreatDoorXzh
import Derived.Test.YtgcpdfihjmmggaaGreatDoorXzi
namespace Go.Proofs.YtgcpdfihjmmggaaGreatDoor.odd
open Go Go.AV Go.Proofs.S25 Go.Proofs.YtgcpdfihjmmggaaGreatDoor.law Go.ChangeShapes Go.WideShapes Go.ChangeAt Go.RowKit
def tp:cN:=⟨z7, .agg [.ax, .ax, .ax, .ax, .ax],120, .struct [22,23,23,24,25],false⟩
def ti:cN:=⟨.leaf, .int .i64 0,8, .int .i64,false⟩
def ts:cN:=⟨aI, .agg [.ax, .agg [.ax, .ax, .ax, .ax], .ax],144, .struct [28,32,33],false⟩
theorem con (ys:List AV) (hl:ys.length=[tp,ts,ti].length) (h:∀ (j:Nat) (te:cN),[tp,ts,ti][j]? =some te ->js (eM 61) true te (ys.getD j .any)):rm Tryz.prog GG 5 (List.zipWith rr [tp,ts,ti] ys) (.bool true):=by
 match ys,hl with
 | [a,b,c],_=>
  obtain⟨p,a1,a2,a3⟩:=zu7 tp rfl (h 0 tp rfl)
  obtain⟨n,hn,n1,n2⟩:=zu4 (k:= .i64) rfl (h 2 ti rfl)
  obtain⟨s,c1,c2,c3⟩:=aw4 ts rfl (h 1 ts rfl)
  simp only[List.getD_cons_zero,List.getD_cons_succ]at a1 hn c1
  subst hn
  exact((aw8 p s n a2 a3 c2 c3 ⟨aby ▸ n1,acb ▸ n2⟩).pre (args':=[.mc z7 a, .mc aI b, .int .i64 n]) rfl λw F v j hj hv=>by
   match j,hj with
   |0,_=>exact dG.mc a1 w F v hv
   |1,_=>exact dG.mc c1 w F v hv
   |2,_=>exact hv).calls (fn:=Tryz.f5) Tryz.func5 (by kernel_rfl)
theorem aga (os:Os) (started:os.Started) (H:Type) (enc:TypeId×Value ->H):
 ReturnsInHanded {} Tryz.checked os 5 .any (λw args=>(Rows.tsoOddSpec.pre enc Tryz.prog Tryz.f5 [] false w args/\laidMetH Tryz.prog zr1 w)/\sizedMet enc Tryz.prog Tryz.f5 (OpenSpec.ofChange Rows.tsoOddSpec) false w args)
  (Rows.tsoOddSpec.post enc Tryz.prog Tryz.f5 false true false false):=by
 refine z9o (C:=Tryz.checked) (P:=Tryz.prog) (by kernel_rfl) (X:=λw _=>laidMetH Tryz.prog zr1 w) (λ_ _ _ hh h=>h.of_heap hh) fj started (by kernel_rfl) Tryz.func5
  (ChangeSpec.witness_shaped (enc:=enc) (C:=Tryz.checked) (os:=os) (X:=λw _=>laidMetH Tryz.prog zr1 w) false (World.doorLaid Tryz.prog 400 os) #[.agg #[.slice none 0 0, .slice none 0 0, .slice none 0 0, .slice none 0 0, .slice none 0 0], .agg #[.slice none 0 0, .slice none 0 0, .slice none 0 0, .slice none 0 0, .slice none 0 0, .slice none 0 0], .int .i64 0] 8 rfl (World.shaped_of_RefB (by kernel_rfl) (by kernel_rfl)) (by kernel_rfl) (by kernel_rfl) (by kernel_rfl) (zu8 os _)) ?_
 intro W base args ds gs before hval hW hsz hL
 exact adj (tes:=[tp,ts,ti]) rfl (by kernel_rfl) (by decide+kernel) (by kernel_rfl)
  (λds h=>by match ds,h with | [_,_,_],_=>rfl) con W (aey hL) base args ds gs before (by with_reducible exact hval) (by with_reducible exact hW) (by with_reducible exact hsz)
end Go.Proofs.YtgcpdfihjmmggaaGreatDoor.odd
