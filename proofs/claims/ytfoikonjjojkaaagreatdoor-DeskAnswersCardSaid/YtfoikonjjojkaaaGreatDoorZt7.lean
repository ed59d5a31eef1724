/- Parts. -/
import Derived.Test.YtfoikonjjojkaaaGreatDoorZt5
set_option linter.unusedVariables false
set_option maxRecDepth 100000
set_option maxHeartbeats 8000000
open Go.Proofs.Tryz
open Go.Value renaming int→I,pointer→IP
open Go.IntKind renaming i64→O
namespace Go.Proofs.YtfoikonjjojkaaaGreatDoor
open Go Go.ChangeShapes Go.RowKit Go.WideShapes
def Xs2(l:List Int):Array Value:=(l.map (.int .u16)).toArray
noncomputable def Dq (os:Os):World:=
 let w0:=World.holding prog os ⟨#[.cells #[.string Xs0] 305,.cells #[.string Xs1] 305,.cells #[.slice (some ⟨low+3,0,none⟩) 7 7,.slice none 0 0,I O 2] 242,.cells (Xs2 [9,13,1,32,133,101,160,5760,5600,8192,8202,1,8232,8233,1,8239,8287,48,12288,12288,1]) 245],#[],[]⟩
 {w0 with heap:=NV (NV (NV (NV (NV (NV (NV (NV (NV (NV w0.heap 5 #[.iface 251 (.agg #[IP (some ⟨12,39,none⟩)])])
   6 #[.iface 303 (IP (some ⟨low,0,none⟩))]) 7 #[.iface 303 (IP (some ⟨low+1,0,none⟩))])
   8 (Ji Rows.laid_internal_strconv_uint64pow10)) 9 (Ji Rows.laid_math_bits_deBruijn32tab)) 10 (Ji Rows.laid_math_bits_deBruijn64tab))
   3 (Xq5 Rows.laid_unicode_utf8_acceptRanges)) 2 (Ji Rows.laid_unicode_utf8_first))
   1 #[IP (some ⟨low+2,0,none⟩)]) 0 (Ji Rows.laid_strings_asciiSpace)}
theorem Qu9(os:Os):((Dq os).forCall (fun _ _=>0) ⟨#[],#[.string ⟨#[]⟩],[]⟩).Shaped prog:=World.shaped_of_RefB Q4 Q4
theorem Qq7(os:Os)(args:Array Value):laidMetH prog Rows.deskAnswersRow.laid ((Dq os).forCall (fun _ _=>0) ⟨#[],args,[]⟩).memory:=
 laidMetH_of_parts (laidMet_of_run3 8 Q4 Q4 Q4) Q4
