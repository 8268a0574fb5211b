import Derived.Test.YtcfagpelpjdmaaaGreatDoorXzc
import Derived.Test.YtcfagpelpjdmaaaGreatDoorXzd
namespace Go.Proofs.YtcfagpelpjdmaaaGreatDoor.finish
open Go Go.AV Go.Proofs.S25 Go.Proofs.YtcfagpelpjdmaaaGreatDoor.law Go.ChangeShapes Go.WideShapes Go.ChangeAt Go.RowKit
def tp:TyE:=⟨z7, .agg [.nils, .nils, .nils, .nils, .nils],120, .struct [22,23,23,24,25],false⟩
def tl:TyE:=⟨.leaf, .nils,24, .slice 3,false⟩
theorem zsf (te:TyE) {y:AV} (hk:te.kind= .slice 3) (h:HT te y):∃ l:List Int,RdS .leaf y (rowI l)/\l.length*8<=reachBytes/\∀ i,i<l.length ->I64 (l.getD i 0):=by
 have ht:tyOf C25 3=some ⟨.leaf, .int .i64 0,8, .int .i64,false⟩:=by kernel_rfl
 exact zab (fun n=>AV.int .i64 n) 0 I64 hk ht h fun x hx=>by
  obtain⟨m,rfl,h3,h4⟩:=zu4 (k:= .i64) rfl hx
  exact⟨m,RdS.refl _ _,z1a1 ▸ h3,z1a2 ▸ h4⟩
theorem z1md (te:TyE) {y:AV} (hk:te.kind= .struct [28,3]) (h:HT te y):∃ c:Conf,y=encC c:=by
 obtain⟨xs,rfl,hl,hx⟩:=z62 hk h
 match xs,hl with
 | [a,b],_=>
  obtain⟨m1,h1⟩:=z4t (k:= .i64) rfl (hx 0 28 ⟨.leaf, .int .i64 0,8, .int .i64,false⟩ rfl (by kernel_rfl))
  obtain⟨m2,h2⟩:=z4t (k:= .i64) rfl (hx 1 3 ⟨.leaf, .int .i64 0,8, .int .i64,false⟩ rfl (by kernel_rfl))
  simp only[List.getD_cons_zero,List.getD_cons_succ]at h1 h2
  subst h1 h2
  exact⟨⟨m1,m2⟩,rfl⟩
def tc:TyE:=⟨z16, .agg [.int .i64 0, .int .i64 0],16, .struct [28,3],true⟩
theorem con (ys:List AV) (hl:ys.length=[tp,tc,tl].length) (h:∀ (j:Nat) (te:TyE),[tp,tc,tl][j]? =some te ->HasTyB (cfgT 61) true te (ys.getD j .any)):z83 Tryz.prog GG 6 (List.zipWith zdj [tp,tc,tl] ys) (.bool true):=by
 match ys,hl with
 | [a,b,d],_=>
  obtain⟨p,a1,a2,a3⟩:=zu7 tp rfl (h 0 tp rfl)
  obtain⟨c,hc⟩:=z1md tc rfl (h 1 tc rfl)
  obtain⟨l,l1,a4,a5⟩:=zsf tl rfl (h 2 tl rfl)
  obtain⟨m,f,hm,_⟩:=zeg (te:=tl) rfl (show tyOf C25 3=some ⟨.leaf, .int .i64 0,8, .int .i64,false⟩ by kernel_rfl) (h 2 tl rfl)
  simp only[List.getD_cons_zero,List.getD_cons_succ]at a1 hc l1 hm
  subst hc hm
  have hr:=rchB
  exact((z1ps p c l a2 a3 kEnq (by omega) fun i=>by
   by_cases hi:i<l.length
   . exact a5 i hi
   . rw[List.getD_eq_getElem?_getD,List.getElem?_eq_none (by omega)];exact⟨by decide,by decide⟩).pre (args':=[.mc z7 a, .mc z16 (encC c), .seq .leaf m f]) rfl fun w F v j hj hv=>by
   match j,hj with
   |0,_=>exact RdS.mc a1 w F v hv
   |1,_=>exact hv
   |2,_=>exact l1 0 (by decide) w F v hv).calls (fn:=Tryz.f6) Tryz.func6 (by kernel_rfl)
theorem z1d7 (os:Os) (started:os.Started) (H:Type) (enc:TypeId×Value ->H):
 ReturnsInHanded {} Tryz.checked os 6 .any (fun w args=>(Rows.execFinishSpec.pre enc Tryz.prog Tryz.f6 [] false w args/\laidMetH Tryz.prog zr1 w)/\sizedMet enc Tryz.prog Tryz.f6 (OpenSpec.ofChange Rows.execFinishSpec) false w args)
  (Rows.execFinishSpec.post enc Tryz.prog Tryz.f6 false true false false):=by
 refine z9o (C:=Tryz.checked) (P:=Tryz.prog) (by kernel_rfl) (X:=fun w _=>laidMetH Tryz.prog zr1 w) (fun _ _ _ hh h=>h.of_heap hh) ownK started (by kernel_rfl) Tryz.func6
  (ChangeSpec.witness_shaped (enc:=enc) (C:=Tryz.checked) (os:=os) (X:=fun w _=>laidMetH Tryz.prog zr1 w) false (World.doorLaid Tryz.prog 400 os) #[.agg #[.slice none 0 0, .slice none 0 0, .slice none 0 0, .slice none 0 0, .slice none 0 0], .agg #[.int .i64 0, .int .i64 0], .slice none 0 0] 8 rfl (World.shaped_of_RefB (by kernel_rfl) (by kernel_rfl)) (by kernel_rfl) (by kernel_rfl) (by kernel_rfl) (zu8 os _)) ?_
 intro W base args ds gs before hval hW hsz hL
 exact z1gj (tes:=[tp,tc,tl]) rfl (by kernel_rfl) (by decide+kernel) (by kernel_rfl)
  (fun ds h=>by match ds,h with | [_,_,_],_=>rfl) con W (z12a hL) base args ds gs before (by with_reducible exact hval) (by with_reducible exact hW) (by with_reducible exact hsz)
end Go.Proofs.YtcfagpelpjdmaaaGreatDoor.finish
