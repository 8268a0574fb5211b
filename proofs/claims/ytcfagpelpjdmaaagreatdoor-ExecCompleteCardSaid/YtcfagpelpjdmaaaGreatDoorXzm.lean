import Derived.Test.YtcfagpelpjdmaaaGreatDoorXze
import Derived.Test.YtcfagpelpjdmaaaGreatDoorXzk
import Derived.Test.YtcfagpelpjdmaaaGreatDoorXzj
import Derived.Test.YtcfagpelpjdmaaaGreatDoorXzl
namespace Go.Proofs.YtcfagpelpjdmaaaGreatDoor.cmp
open Go Go.AV Go.Proofs.S25 Go.Proofs.YtcfagpelpjdmaaaGreatDoor.law Go.ChangeShapes Go.WideShapes Go.ChangeAt Go.RowKit
def tp:cT:=⟨z7, .agg [.aA, .aA, .aA, .aA, .aA],120, .struct [22,23,23,24,25],false⟩
def tl:cT:=⟨.leaf, .aA,24, .slice 3,false⟩
theorem zsf (te:cT) {y:AV} (j:te.kind= .slice 3) (h:HT te y):∃ l:List Int,ew .leaf y (ab l)/\l.length*8<=reachBytes/\∀ i,i<l.length ->jS (l.getD i 0):=by
 have f:aY B3 3=some ⟨.leaf,co 0,8, .int .i64,false⟩:=am
 exact YO (λn=>co n) 0 jS j f h λx e=>by
  obtain⟨m,rfl,r,o⟩:=zu4 (k:= .i64) rfl e
  exact⟨m,ew.refl _ _,ajg ▸ r,aof ▸ o⟩
theorem aeo (te:cT) {y:AV} (r:te.kind= .struct [28,3]) (h:HT te y):∃ c:bq,y=tJ c:=by
 obtain⟨j,rfl,hl,e⟩:=X9 r h
 match j,hl with
 | [a,b],_=>
  have⟨o,i⟩:=ra (k:= .i64) rfl (e 0 28 ⟨.leaf,co 0,8, .int .i64,false⟩ rfl am)
  have⟨m,f⟩:=ra (k:= .i64) rfl (e 1 3 ⟨.leaf,co 0,8, .int .i64,false⟩ rfl am)
  simp only[List.getD_cons_zero,List.getD_cons_succ]at i f
  subst i f
  exact⟨⟨o,m⟩,rfl⟩
def tc:cT:=⟨ct, .agg [co 0,co 0],16, .struct [28,3],true⟩
theorem con (ys:List AV) (hl:ys.length=[tp,tc,tl].length) (h:∀ (j:Nat) (te:cT),[tp,tc,tl][j]? =some te ->bF (fj 61) true te (ys.getD j .any)):vg Tryz.prog GG 5 (List.zipWith vp [tp,tc,tl] ys) (.bool true):=by
 match ys,hl with
 | [a,b,d],_=>
  obtain⟨p,a1,a2,a3⟩:=zu7 tp rfl (h 0 tp rfl)
  obtain⟨c,hc⟩:=aeo tc rfl (h 1 tc rfl)
  obtain⟨l,l1,a4,a5⟩:=zsf tl rfl (h 2 tl rfl)
  obtain⟨m,f,hm,_⟩:=zeg (te:=tl) rfl (show aY B3 3=some ⟨.leaf, .int .i64 0,8, .int .i64,false⟩ by kernel_rfl) (h 2 tl rfl)
  simp only[List.getD_cons_zero,List.getD_cons_succ]at a1 hc l1 hm
  subst hc hm
  have hr:=W8
  exact((arc p c l a2 a3 aos aog (by omega) λi=>by
   by_cases hi:i<l.length
   . exact a5 i hi
   . rw[x7,yi (by omega)];exact⟨by decide,by decide⟩).pre (args':=[.mc z7 a, .mc ct (tJ c), .seq .leaf m f]) rfl λw F v j hj hv=>by
   match j,hj with
   |0,_=>exact ew.mc a1 w F v hv
   |1,_=>exact hv
   |2,_=>exact l1 0 (by decide) w F v hv).calls (fn:=Tryz.f5) Tryz.func5 (by kernel_rfl)
theorem anu (os:Os) (started:os.Started) (H:Type) (enc:TypeId×Value ->H):
 ReturnsInHanded {} Tryz.checked os 5 .any (λw args=>(Rows.execCompleteSpec.pre enc Tryz.prog Tryz.f5 [] false w args/\laidMetH Tryz.prog zr1 w)/\sizedMet enc Tryz.prog Tryz.f5 (OpenSpec.ofChange Rows.execCompleteSpec) false w args)
  (Rows.execCompleteSpec.post enc Tryz.prog Tryz.f5 false true false false):=by
 refine z9o (C:=Tryz.checked) (P:=Tryz.prog) (by kernel_rfl) (X:=λw _=>laidMetH Tryz.prog zr1 w) (λ_ _ _ hh h=>h.of_heap hh) gX started (by kernel_rfl) Tryz.func5
  (ChangeSpec.witness_shaped (enc:=enc) (C:=Tryz.checked) (os:=os) (X:=λw _=>laidMetH Tryz.prog zr1 w) false (World.doorLaid Tryz.prog 400 os) #[.agg #[.slice none 0 0, .slice none 0 0, .slice none 0 0, .slice none 0 0, .slice none 0 0], .agg #[.int .i64 0, .int .i64 0], .slice none 0 0] 8 rfl (World.shaped_of_RefB (by kernel_rfl) (by kernel_rfl)) (by kernel_rfl) (by kernel_rfl) (by kernel_rfl) (zu8 os _)) ?_
 intro W base args ds gs before hval hW hsz hL
 exact ahi (tes:=[tp,tc,tl]) rfl (by kernel_rfl) (by decide+kernel) (by kernel_rfl)
  (λds h=>by match ds,h with | [_,_,_],_=>rfl) con W (al2 hL) base args ds gs before (by with_reducible exact hval) (by with_reducible exact hW) (by with_reducible exact hsz)
end Go.Proofs.YtcfagpelpjdmaaaGreatDoor.cmp
