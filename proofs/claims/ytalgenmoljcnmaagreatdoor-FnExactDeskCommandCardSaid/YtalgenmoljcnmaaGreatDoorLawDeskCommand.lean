/- FnExactDeskCommand holds; no conditions. -/
import Derived.Test.YtalgenmoljcnmaaGreatDoorDcW
namespace Go.Proofs.YtalgenmoljcnmaaGreatDoor
open Go Go.Shelf Go.Proofs Go.RowKit Go.Vc Go.M Go.ChangeShapes Go.WideShapes Go.ChangeAt
open Go.ChangeMaps (open_string)
variable {H:Type}
set_option maxRecDepth 100000
theorem Nn {enc:TypeId×Value->H} {base:Nat} (W:World) (args:List Value) (ds:List (DataW H)) (p:List MemPlace) (hA:DataW.TrodAll enc Tryz.prog W 0 (fun _=>true) true (Tryz.f4).params.toList args ds p)
  (hv:∀ (j:Nat) t v,(Tryz.f4).params[j]? = some t->args[j]? = some v->Value.okWide Tryz.prog W .any base t v) (hL:laidMet Tryz.prog Rows.fnExactDeskCommandRow.laid W) (_hsh:W.ShapedOpen Tryz.prog):Dq 4 args W (fun v w'=>v = .bool true/\AD W w'):=by
 have a:(Tryz.f4).params.toList=[29,9]:=rfl;rw [a] at hA;obtain ⟨h,z,m,o,s,w,rfl,rfl,rfl,b,f⟩:=trodAll_cons hA;obtain ⟨i,aa,n,q,u,x,rfl,rfl,rfl,c,g⟩:=trodAll_cons f;obtain ⟨rfl,rfl,rfl⟩:=trodAll_nil g;obtain ⟨r,y,k,l,rfl,d,ok⟩:=XI W (hv 0 29 h (by rw [<- Array.getElem?_toList,a];rfl) rfl) b;obtain ⟨ab,rfl,rfl,rfl,e⟩:=open_string Tryz.underlying9 (hv 1 9 i (by rw [<- Array.getElem?_toList,a];rfl) rfl) c;exact PU d ok e (Wr hL.tail.tail) (VE hL.tail.tail.tail.tail.tail hL.tail.tail.tail.tail) (Rq _hsh) (NW hL.tail.tail.tail.tail.tail.tail)
theorem KJ (os:Os):((World.laidAll Tryz.prog os Rows.fnExactDeskCommandRow.laid).forCall (fun _ _=>0) ⟨#[],#[.agg #[.slice none 0 0,.slice none 0 0,.string { data := #[] }],.string { data := #[] }],[]⟩).Shaped Tryz.checked.prog:=World.shaped_of_ZipB kR kR
theorem KI (os:Os):Input.okWideB Tryz.checked.prog ((World.laidAll Tryz.prog os Rows.fnExactDeskCommandRow.laid).forCall (fun _ _=>0) ⟨#[],#[.agg #[.slice none 0 0,.slice none 0 0,.string { data := #[] }],.string { data := #[] }],[]⟩) 4 ⟨#[],#[.agg #[.slice none 0 0,.slice none 0 0,.string { data := #[] }],.string { data := #[] }],[]⟩=true:=kR
theorem KH (os:Os) (enc:TypeId×Value->H):(Rows.fnExactDeskCommandSpec).preB enc Tryz.checked.prog Tryz.f4 Rows.fnExactDeskCommandRow.domain false ((World.laidAll Tryz.prog os Rows.fnExactDeskCommandRow.laid).forCall (fun _ _=>0) ⟨#[],#[.agg #[.slice none 0 0,.slice none 0 0,.string { data := #[] }],.string { data := #[] }],[]⟩).memory #[.agg #[.slice none 0 0,.slice none 0 0,.string { data := #[] }],.string { data := #[] }] 8=true:=kR
theorem KG (os:Os) (enc:TypeId×Value->H):(Rows.fnExactDeskCommandSpec).sizedB enc Tryz.checked.prog Tryz.f4 false ((World.laidAll Tryz.prog os Rows.fnExactDeskCommandRow.laid).forCall (fun _ _=>0) ⟨#[],#[.agg #[.slice none 0 0,.slice none 0 0,.string { data := #[] }],.string { data := #[] }],[]⟩).memory #[.agg #[.slice none 0 0,.slice none 0 0,.string { data := #[] }],.string { data := #[] }] 8=true:=kR
theorem KF (os:Os):laidMet Tryz.checked.prog Rows.fnExactDeskCommandRow.laid ((World.laidAll Tryz.prog os Rows.fnExactDeskCommandRow.laid).forCall (fun _ _=>0) ⟨#[],#[.agg #[.slice none 0 0,.slice none 0 0,.string { data := #[] }],.string { data := #[] }],[]⟩).memory:=laidMet_laidAll _ kR kR
theorem IL (os:Os) (started:os.Started) (H:Type) (enc:TypeId×Value->H) (F:Stop.Interp) :
  ReturnsInHanded {} Tryz.checked os 4 .any ((OpenSpec.ofChange Rows.fnExactDeskCommandSpec).preRow enc Tryz.prog Tryz.f4 Rows.fnExactDeskCommandRow.domain false Rows.fnExactDeskCommandRow.laid) (((OpenSpec.ofChange Rows.fnExactDeskCommandSpec).at F).post enc Tryz.prog Tryz.f4 false true false false):=by
 refine returnsInHanded_of_row (C:=Tryz.checked) (s:=OpenSpec.ofChange Rows.fnExactDeskCommandSpec) aD6 started kR Tryz.func4
  (P1 (enc:=enc) (C:=Tryz.checked) (World.laidAll Tryz.prog os Rows.fnExactDeskCommandRow.laid) #[.agg #[.slice none 0 0,.slice none 0 0,.string { data := #[] }],.string { data := #[] }] 8 (World.laidAll_os _ _ _) (KJ os) (KI os) (KH os enc) (KG os enc)
   (by rw [MakeChecks.laidMetH_plain _ _ _ kR];exact KF os)) ?_
 intro b base c a f e l i _ _ _ d j _;rw [MakeChecks.laidMetH_plain _ _ _ kR] at d;exact N4 (P:=Tryz.prog) (fn:=Tryz.f4) (s:=Rows.fnExactDeskCommandSpec) (n:=(Rows.fnExactRunDeskRow.named.getD 8 Rows.fnExactRunDeskRow.spec)) (g0:=0) (t0:=137) rfl kR kR kR dE rfl Tryz.underlying4 Zv kR
  (fun a o g=>match a,g with | [d0,d1],_=>⟨rfl,rfl,rfl⟩) b c a f e (fun m h k=>Nn b c.toList a m h k d j) l i
theorem KO:(Rows.fnExactDeskCommandRow.inPlace == Tryz.prog.inPlace 4)=true:=kR
theorem KN:(Rows.fnExactDeskCommandRow.unfollowed == Tryz.prog.unfollowed 4)=true:=kR
theorem KM:(Rows.fnExactDeskCommandRow.recurses == Tryz.prog.recurses 4)=true:=kR
theorem KL:(Rows.fnExactDeskCommandRow.named == Tryz.prog.varsNamed 4)=true:=kR
theorem KK:(Rows.fnExactDeskCommandRow.plainKeys == Tryz.prog.plainKeys)=true:=kR
theorem IM:joinedFacts Tryz.prog 4 Tryz.f4 (OpenSpec.ofChange Rows.fnExactDeskCommandSpec).bare Rows.fnExactDeskCommandRow=true:=by
 unfold joinedFacts;exact IG (IG (IG (IG (IG (IG (IG (IG (IG (IG (IG (IG (IG (IG (IG (IG (IG (IG (IG (IG (IG (IG (IG kR KO) KN) KM) KL) kR) kR) kR) kR) kR) kR) kR) kR) kR) KK) kR) XA) XB) W9) Yi) kR) kR) kR) kR
theorem Fu:Tryz.prog.funcNamed Rows.fnExactDeskCommandRow.func=some 4:=kR
theorem Jw:Rows.FnExactDeskCommandSaid :=
 OpenClaim.holds_of_cond 4 Tryz.f4 rfl rfl rfl rfl rfl rfl rfl ⟨rfl,rfl,rfl,rfl,rfl⟩ rfl rfl rfl rfl rfl Fu Tryz.func4 IM
  (of_decide_eq_true kR) (by unfold Func.isWrapper;first | (rw [if_pos (by decide +kernel)];kernel_rfl) | (rw [if_neg (by decide +kernel)];exact ⟨rfl,rfl⟩))
  (fun os c b enc _ a=>by rw [OpenClaim.pre_eq_preRow];exact IL os c b enc a)
theorem JL:false=Rows.fnExactDeskCommandRow.goesBy Tryz.pinned.checked.prog:=kR
theorem KE:Rows.fnExactDeskCommandRow.wfByText (OpenSpec.ofChange Rows.fnExactDeskCommandSpec)=true:=kR
theorem Iz (f:FuncId) (fn:Func) (hf:Tryz.pinned.checked.prog.funcNamed Rows.fnExactDeskCommandRow.func=some f) (hfn:Tryz.pinned.checked.prog.funcs[f]? = some fn) :
  true=Tryz.pinned.checked.prog.looks []/\∀ (j:Nat) t,fn.params[j]? = some t->Tryz.pinned.checked.prog.wantsStandIn t=false:=by
 obtain rfl:f=4:=Option.some.inj (Fu.symm.trans hf) |>.symm;obtain rfl:fn=Tryz.f4:=(Option.some.inj (Tryz.func4.symm.trans hfn)).symm;refine ⟨W8,fun j t b=>?_⟩;have a:(Tryz.f4.params.toList.all fun c=>!Tryz.prog.wantsStandIn c)=true:=kR
 exact (show Tryz.prog.wantsStandIn t=false by simpa using List.all_eq_true.1 a t (by simpa using Array.mem_of_getElem? b))
theorem FnExactDeskCommand_holds:Rows.FnExactDeskCommandCardSaid :=
 Claim7.holds_tied_plain_at .later [] _ _ _ _ Jw (fun _ a=>by cases a) KE (fun _ a=>by cases a) fnExactDeskCommand_row_tie rfl ⟨rfl,rfl⟩ Yj rfl Iz JL
end Go.Proofs.YtalgenmoljcnmaaGreatDoor
