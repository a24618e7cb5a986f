/- What the types of this program are. -/
import Derived.Test.YtlegolcbjjjofaaProg
import Derived.Test.YtlegolcbjjjofaaAm14
import Derived.KernelRfl
namespace Go.Proofs.Ytlegolcbjjjofaa.AmF
open Go.AM
theorem ti_Fnc498c1eb : tyI Try.prog 1 = some ⟨.func #[] #[] false, 1, 8, .nilFunc⟩ := tyI_of (by kernel_rfl) Try.underlying1
theorem ti_int64 : tyI Try.prog 2 = some ⟨.int .i64, 1, 8, .int .i64 0⟩ := tyI_of (by kernel_rfl) Try.underlying2
theorem ti_int : tyI Try.prog 3 = some ⟨.int .i64, 1, 8, .int .i64 0⟩ := tyI_of (by kernel_rfl) Try.underlying3
theorem ti_bool : tyI Try.prog 4 = some ⟨.bool, 1, 1, .bool false⟩ := tyI_of (by kernel_rfl) Try.underlying4
theorem ti_uint8 : tyI Try.prog 5 = some ⟨.int .u8, 1, 1, .int .u8 0⟩ := tyI_of (by kernel_rfl) Try.underlying5
theorem ti_internal_abi_BoundsErrorCode : tyI Try.prog 6 = some ⟨.int .u8, 1, 1, .int .u8 0⟩ := tyI_of (by kernel_rfl) Try.underlying6
theorem ti_S0b53c675 : tyI Try.prog 7 = some ⟨.struct #[⟨ "x", 2, 0, false, "", "runtime", 0⟩, ⟨ "y", 3, 1, false, "", "runtime", 8⟩, ⟨ "signed", 4, 2, false, "", "runtime", 16⟩, ⟨ "code", 6, 3, false, "", "runtime", 17⟩], 4, 24, .agg #[.int .i64 0, .int .i64 0, .bool false, .int .u8 0]⟩ := tyI_of (by kernel_rfl) Try.underlying7
theorem ti_runtime_boundsError : tyI Try.prog 8 = some ⟨.struct #[⟨ "x", 2, 0, false, "", "runtime", 0⟩, ⟨ "y", 3, 1, false, "", "runtime", 8⟩, ⟨ "signed", 4, 2, false, "", "runtime", 16⟩, ⟨ "code", 6, 3, false, "", "runtime", 17⟩], 4, 24, .agg #[.int .i64 0, .int .i64 0, .bool false, .int .u8 0]⟩ := tyI_of (by kernel_rfl) Try.underlying8
theorem ti_string : tyI Try.prog 9 = some ⟨.string, 1, 16, .string ⟨#[]⟩⟩ := tyI_of (by kernel_rfl) Try.underlying9
theorem ti_runtime_errorString : tyI Try.prog 10 = some ⟨.string, 1, 16, .string ⟨#[]⟩⟩ := tyI_of (by kernel_rfl) Try.underlying10
theorem ti_runtime_plainError : tyI Try.prog 11 = some ⟨.string, 1, 16, .string ⟨#[]⟩⟩ := tyI_of (by kernel_rfl) Try.underlying11
theorem ti_uintptr : tyI Try.prog 12 = some ⟨.int .u64, 1, 8, .int .u64 0⟩ := tyI_of (by kernel_rfl) Try.underlying12
theorem ti_S74433d11 : tyI Try.prog 13 = some ⟨.struct #[⟨ "msg", 9, 0, false, "", "runtime", 0⟩, ⟨ "addr", 12, 1, false, "", "runtime", 16⟩], 2, 24, .agg #[.string ⟨#[]⟩, .int .u64 0]⟩ := tyI_of (by kernel_rfl) Try.underlying13
theorem ti_runtime_errorAddressString : tyI Try.prog 14 = some ⟨.struct #[⟨ "msg", 9, 0, false, "", "runtime", 0⟩, ⟨ "addr", 12, 1, false, "", "runtime", 16⟩], 2, 24, .agg #[.string ⟨#[]⟩, .int .u64 0]⟩ := tyI_of (by kernel_rfl) Try.underlying14
theorem ti_Pruntime_TypeAssertionError : tyI Try.prog 15 = some ⟨.pointer 171, 1, 8, .pointer none⟩ := tyI_of (by kernel_rfl) Try.underlying15
theorem ti_Pruntime_PanicNilError : tyI Try.prog 16 = some ⟨.pointer 174, 1, 8, .pointer none⟩ := tyI_of (by kernel_rfl) Try.underlying16
theorem ti_Pinternal_abi_Type : tyI Try.prog 17 = some ⟨.pointer 183, 1, 8, .pointer none⟩ := tyI_of (by kernel_rfl) Try.underlying17
theorem ti_S12c68beb : tyI Try.prog 18 = some ⟨.struct #[⟨ "typ", 17, 0, false, "", "internal/runtime/maps", 0⟩], 1, 8, .agg #[.pointer none]⟩ := tyI_of (by kernel_rfl) Try.underlying18
theorem ti_internal_runtime_maps_unhashableTypeError : tyI Try.prog 19 = some ⟨.struct #[⟨ "typ", 17, 0, false, "", "internal/runtime/maps", 0⟩], 1, 8, .agg #[.pointer none]⟩ := tyI_of (by kernel_rfl) Try.underlying19
theorem ti_int32 : tyI Try.prog 21 = some ⟨.int .i32, 1, 4, .int .i32 0⟩ := tyI_of (by kernel_rfl) Try.underlying21
theorem ti_Lrevetmentlaw05_Act : tyI Try.prog 22 = some ⟨.slice 32, 1, 24, .slice none 0 0⟩ := tyI_of (by kernel_rfl) Try.underlying22
theorem ti_Pzdev_Dev : tyI Try.prog 23 = some ⟨.pointer 82, 1, 8, .pointer none⟩ := tyI_of (by kernel_rfl) Try.underlying23
theorem ti_api_Errno : tyI Try.prog 24 = some ⟨.int .i64, 1, 8, .int .i64 0⟩ := tyI_of (by kernel_rfl) Try.underlying24
theorem ti_Fnff90b476 : tyI Try.prog 26 = some ⟨.func #[3, 3, 3, 3] #[23, 24] false, 1, 8, .nilFunc⟩ := tyI_of (by kernel_rfl) Try.underlying26
theorem ti_Fnbf55c02a : tyI Try.prog 27 = some ⟨.func #[22] #[4] false, 1, 8, .nilFunc⟩ := tyI_of (by kernel_rfl) Try.underlying27
theorem ti_Fn1a585f71 : tyI Try.prog 28 = some ⟨.func #[24] #[3] false, 1, 8, .nilFunc⟩ := tyI_of (by kernel_rfl) Try.underlying28
theorem ti_Fn8dec0830 : tyI Try.prog 29 = some ⟨.func #[] #[4] false, 1, 8, .nilFunc⟩ := tyI_of (by kernel_rfl) Try.underlying29
theorem ti_Luint8 : tyI Try.prog 30 = some ⟨.slice 5, 1, 24, .slice none 0 0⟩ := tyI_of (by kernel_rfl) Try.underlying30
theorem ti_S7137147e : tyI Try.prog 31 = some ⟨.struct #[⟨ "Do", 3, 0, false, "", "", 0⟩, ⟨ "Z", 3, 1, false, "", "", 8⟩, ⟨ "B", 30, 2, false, "", "", 16⟩, ⟨ "At", 3, 3, false, "", "", 40⟩, ⟨ "N", 3, 4, false, "", "", 48⟩], 5, 56, .agg #[.int .i64 0, .int .i64 0, .slice none 0 0, .int .i64 0, .int .i64 0]⟩ := tyI_of (by kernel_rfl) Try.underlying31
theorem ti_revetmentlaw05_Act : tyI Try.prog 32 = some ⟨.struct #[⟨ "Do", 3, 0, false, "", "", 0⟩, ⟨ "Z", 3, 1, false, "", "", 8⟩, ⟨ "B", 30, 2, false, "", "", 16⟩, ⟨ "At", 3, 3, false, "", "", 40⟩, ⟨ "N", 3, 4, false, "", "", 48⟩], 5, 56, .agg #[.int .i64 0, .int .i64 0, .slice none 0 0, .int .i64 0, .int .i64 0]⟩ := tyI_of (by kernel_rfl) Try.underlying32
theorem ti_Fn0e5fe28a : tyI Try.prog 33 = some ⟨.func #[3, 30] #[24] false, 1, 8, .nilFunc⟩ := tyI_of (by kernel_rfl) Try.underlying33
theorem ti_Fna81087db : tyI Try.prog 34 = some ⟨.func #[] #[24] false, 1, 8, .nilFunc⟩ := tyI_of (by kernel_rfl) Try.underlying34
theorem ti_Fn5d5a5c94 : tyI Try.prog 35 = some ⟨.func #[3] #[24] false, 1, 8, .nilFunc⟩ := tyI_of (by kernel_rfl) Try.underlying35
theorem ti_Fn21c690ce : tyI Try.prog 36 = some ⟨.func #[] #[3] false, 1, 8, .nilFunc⟩ := tyI_of (by kernel_rfl) Try.underlying36
theorem ti_Fned3a0008 : tyI Try.prog 37 = some ⟨.func #[5, 22] #[4] false, 1, 8, .nilFunc⟩ := tyI_of (by kernel_rfl) Try.underlying37
theorem ti_Fn9cd5cc34 : tyI Try.prog 38 = some ⟨.func #[30] #[] false, 1, 8, .nilFunc⟩ := tyI_of (by kernel_rfl) Try.underlying38
theorem ti_Sfe70bc48 : tyI Try.prog 39 = some ⟨.struct #[⟨ "Wp", 3, 0, false, "", "", 0⟩, ⟨ "Safe", 3, 1, false, "", "", 8⟩, ⟨ "Done", 4, 2, false, "", "", 16⟩], 3, 24, .agg #[.int .i64 0, .int .i64 0, .bool false]⟩ := tyI_of (by kernel_rfl) Try.underlying39
theorem ti_api_Look : tyI Try.prog 40 = some ⟨.struct #[⟨ "Wp", 3, 0, false, "", "", 0⟩, ⟨ "Safe", 3, 1, false, "", "", 8⟩, ⟨ "Done", 4, 2, false, "", "", 16⟩], 3, 24, .agg #[.int .i64 0, .int .i64 0, .bool false]⟩ := tyI_of (by kernel_rfl) Try.underlying40
theorem ti_Fn6de6e6e5 : tyI Try.prog 42 = some ⟨.func #[3] #[40, 4] false, 1, 8, .nilFunc⟩ := tyI_of (by kernel_rfl) Try.underlying42
theorem ti_Fnf9491374 : tyI Try.prog 44 = some ⟨.func #[3, 3, 3] #[30, 24] false, 1, 8, .nilFunc⟩ := tyI_of (by kernel_rfl) Try.underlying44
theorem ti_Fn3d0e198d : tyI Try.prog 45 = some ⟨.func #[3, 30] #[4] false, 1, 8, .nilFunc⟩ := tyI_of (by kernel_rfl) Try.underlying45
theorem ti_S6fcf4bae : tyI Try.prog 46 = some ⟨.struct #[⟨ "ID", 3, 0, false, "", "", 0⟩, ⟨ "Members", 3, 1, false, "", "", 8⟩, ⟨ "Unit", 3, 2, false, "", "", 16⟩, ⟨ "Block", 3, 3, false, "", "", 24⟩, ⟨ "Cap", 3, 4, false, "", "", 32⟩, ⟨ "Zones", 3, 5, false, "", "", 40⟩, ⟨ "Spare", 3, 6, false, "", "", 48⟩, ⟨ "Meta", 3, 7, false, "", "", 56⟩, ⟨ "Open", 3, 8, false, "", "", 64⟩, ⟨ "Active", 3, 9, false, "", "", 72⟩, ⟨ "Limit", 3, 10, false, "", "", 80⟩], 11, 88, .agg #[.int .i64 0, .int .i64 0, .int .i64 0, .int .i64 0, .int .i64 0, .int .i64 0, .int .i64 0, .int .i64 0, .int .i64 0, .int .i64 0, .int .i64 0]⟩ := tyI_of (by kernel_rfl) Try.underlying46
theorem ti_api_Conf : tyI Try.prog 47 = some ⟨.struct #[⟨ "ID", 3, 0, false, "", "", 0⟩, ⟨ "Members", 3, 1, false, "", "", 8⟩, ⟨ "Unit", 3, 2, false, "", "", 16⟩, ⟨ "Block", 3, 3, false, "", "", 24⟩, ⟨ "Cap", 3, 4, false, "", "", 32⟩, ⟨ "Zones", 3, 5, false, "", "", 40⟩, ⟨ "Spare", 3, 6, false, "", "", 48⟩, ⟨ "Meta", 3, 7, false, "", "", 56⟩, ⟨ "Open", 3, 8, false, "", "", 64⟩, ⟨ "Active", 3, 9, false, "", "", 72⟩, ⟨ "Limit", 3, 10, false, "", "", 80⟩], 11, 88, .agg #[.int .i64 0, .int .i64 0, .int .i64 0, .int .i64 0, .int .i64 0, .int .i64 0, .int .i64 0, .int .i64 0, .int .i64 0, .int .i64 0, .int .i64 0]⟩ := tyI_of (by kernel_rfl) Try.underlying47
theorem ti_Lint : tyI Try.prog 48 = some ⟨.slice 3, 1, 24, .slice none 0 0⟩ := tyI_of (by kernel_rfl) Try.underlying48
theorem ti_Lapi_Zone : tyI Try.prog 49 = some ⟨.slice 68, 1, 24, .slice none 0 0⟩ := tyI_of (by kernel_rfl) Try.underlying49
theorem ti_S239fd5d3 : tyI Try.prog 50 = some ⟨.struct #[⟨ "Conf", 47, 0, false, "", "", 0⟩, ⟨ "Epoch", 3, 11, false, "", "", 88⟩, ⟨ "Seq", 3, 12, false, "", "", 96⟩, ⟨ "Status", 48, 13, false, "", "", 104⟩, ⟨ "Zones", 49, 14, false, "", "", 128⟩], 15, 152, .agg #[.int .i64 0, .int .i64 0, .int .i64 0, .int .i64 0, .int .i64 0, .int .i64 0, .int .i64 0, .int .i64 0, .int .i64 0, .int .i64 0, .int .i64 0, .int .i64 0, .int .i64 0, .slice none 0 0, .slice none 0 0]⟩ := tyI_of (by kernel_rfl) Try.underlying50
theorem ti_api_State : tyI Try.prog 51 = some ⟨.struct #[⟨ "Conf", 47, 0, false, "", "", 0⟩, ⟨ "Epoch", 3, 11, false, "", "", 88⟩, ⟨ "Seq", 3, 12, false, "", "", 96⟩, ⟨ "Status", 48, 13, false, "", "", 104⟩, ⟨ "Zones", 49, 14, false, "", "", 128⟩], 15, 152, .agg #[.int .i64 0, .int .i64 0, .int .i64 0, .int .i64 0, .int .i64 0, .int .i64 0, .int .i64 0, .int .i64 0, .int .i64 0, .int .i64 0, .int .i64 0, .int .i64 0, .int .i64 0, .slice none 0 0, .slice none 0 0]⟩ := tyI_of (by kernel_rfl) Try.underlying51
theorem ti_S53bae53a : tyI Try.prog 52 = some ⟨.struct #[⟨ "Kind", 3, 0, false, "", "", 0⟩, ⟨ "Epoch", 3, 1, false, "", "", 8⟩, ⟨ "Seq", 3, 2, false, "", "", 16⟩, ⟨ "Zone", 3, 3, false, "", "", 24⟩, ⟨ "Gen", 3, 4, false, "", "", 32⟩, ⟨ "Slot", 3, 5, false, "", "", 40⟩, ⟨ "W", 3, 6, false, "", "", 48⟩, ⟨ "Member", 3, 7, false, "", "", 56⟩, ⟨ "Status", 3, 8, false, "", "", 64⟩, ⟨ "Body", 30, 9, false, "", "", 72⟩], 10, 96, .agg #[.int .i64 0, .int .i64 0, .int .i64 0, .int .i64 0, .int .i64 0, .int .i64 0, .int .i64 0, .int .i64 0, .int .i64 0, .slice none 0 0]⟩ := tyI_of (by kernel_rfl) Try.underlying52
theorem ti_api_Rec : tyI Try.prog 53 = some ⟨.struct #[⟨ "Kind", 3, 0, false, "", "", 0⟩, ⟨ "Epoch", 3, 1, false, "", "", 8⟩, ⟨ "Seq", 3, 2, false, "", "", 16⟩, ⟨ "Zone", 3, 3, false, "", "", 24⟩, ⟨ "Gen", 3, 4, false, "", "", 32⟩, ⟨ "Slot", 3, 5, false, "", "", 40⟩, ⟨ "W", 3, 6, false, "", "", 48⟩, ⟨ "Member", 3, 7, false, "", "", 56⟩, ⟨ "Status", 3, 8, false, "", "", 64⟩, ⟨ "Body", 30, 9, false, "", "", 72⟩], 10, 96, .agg #[.int .i64 0, .int .i64 0, .int .i64 0, .int .i64 0, .int .i64 0, .int .i64 0, .int .i64 0, .int .i64 0, .int .i64 0, .slice none 0 0]⟩ := tyI_of (by kernel_rfl) Try.underlying53
theorem ti_Fn0072639d : tyI Try.prog 54 = some ⟨.func #[51] #[4] false, 1, 8, .nilFunc⟩ := tyI_of (by kernel_rfl) Try.underlying54
theorem ti_Fn36ded030 : tyI Try.prog 56 = some ⟨.func #[51, 53] #[51, 24] false, 1, 8, .nilFunc⟩ := tyI_of (by kernel_rfl) Try.underlying56
theorem ti_Fn57775ce8 : tyI Try.prog 58 = some ⟨.func #[51, 53] #[51, 3] false, 1, 8, .nilFunc⟩ := tyI_of (by kernel_rfl) Try.underlying58
theorem ti_Fn03c82947 : tyI Try.prog 59 = some ⟨.func #[51, 51] #[4] false, 1, 8, .nilFunc⟩ := tyI_of (by kernel_rfl) Try.underlying59
theorem ti_Fn6f763961 : tyI Try.prog 60 = some ⟨.func #[51, 53] #[4] false, 1, 8, .nilFunc⟩ := tyI_of (by kernel_rfl) Try.underlying60
theorem ti_Lapi_Rec : tyI Try.prog 61 = some ⟨.slice 53, 1, 24, .slice none 0 0⟩ := tyI_of (by kernel_rfl) Try.underlying61
theorem ti_Fnc2e5a3a5 : tyI Try.prog 62 = some ⟨.func #[47] #[51, 24] false, 1, 8, .nilFunc⟩ := tyI_of (by kernel_rfl) Try.underlying62
theorem ti_Fn361c0348 : tyI Try.prog 63 = some ⟨.func #[47] #[3] false, 1, 8, .nilFunc⟩ := tyI_of (by kernel_rfl) Try.underlying63
theorem ti_Fnafceab27 : tyI Try.prog 64 = some ⟨.func #[47] #[4] false, 1, 8, .nilFunc⟩ := tyI_of (by kernel_rfl) Try.underlying64
theorem ti_Fnff1a94f6 : tyI Try.prog 65 = some ⟨.func #[47] #[51] false, 1, 8, .nilFunc⟩ := tyI_of (by kernel_rfl) Try.underlying65
theorem ti_Lapi_Par : tyI Try.prog 66 = some ⟨.slice 97, 1, 24, .slice none 0 0⟩ := tyI_of (by kernel_rfl) Try.underlying66
theorem ti_S62772dbd : tyI Try.prog 67 = some ⟨.struct #[⟨ "Gen", 3, 0, false, "", "", 0⟩, ⟨ "Slot", 3, 1, false, "", "", 8⟩, ⟨ "Full", 4, 2, false, "", "", 16⟩, ⟨ "W", 3, 3, false, "", "", 24⟩, ⟨ "Whole", 4, 4, false, "", "", 32⟩, ⟨ "Pars", 66, 5, false, "", "", 40⟩], 6, 64, .agg #[.int .i64 0, .int .i64 0, .bool false, .int .i64 0, .bool false, .slice none 0 0]⟩ := tyI_of (by kernel_rfl) Try.underlying67
theorem ti_api_Zone : tyI Try.prog 68 = some ⟨.struct #[⟨ "Gen", 3, 0, false, "", "", 0⟩, ⟨ "Slot", 3, 1, false, "", "", 8⟩, ⟨ "Full", 4, 2, false, "", "", 16⟩, ⟨ "W", 3, 3, false, "", "", 24⟩, ⟨ "Whole", 4, 4, false, "", "", 32⟩, ⟨ "Pars", 66, 5, false, "", "", 40⟩], 6, 64, .agg #[.int .i64 0, .int .i64 0, .bool false, .int .i64 0, .bool false, .slice none 0 0]⟩ := tyI_of (by kernel_rfl) Try.underlying68
theorem ti_Fnd3dfdab1 : tyI Try.prog 69 = some ⟨.func #[51] #[48] false, 1, 8, .nilFunc⟩ := tyI_of (by kernel_rfl) Try.underlying69
theorem ti_Fnd8cb4a12 : tyI Try.prog 70 = some ⟨.func #[47, 61] #[4] false, 1, 8, .nilFunc⟩ := tyI_of (by kernel_rfl) Try.underlying70
theorem ti_Fn76c1ad20 : tyI Try.prog 71 = some ⟨.func #[30] #[51, 24] false, 1, 8, .nilFunc⟩ := tyI_of (by kernel_rfl) Try.underlying71
theorem ti_Fn9ce75982 : tyI Try.prog 72 = some ⟨.func #[51] #[30] false, 1, 8, .nilFunc⟩ := tyI_of (by kernel_rfl) Try.underlying72
theorem ti_Fn49957351 : tyI Try.prog 73 = some ⟨.func #[30] #[4] false, 1, 8, .nilFunc⟩ := tyI_of (by kernel_rfl) Try.underlying73
theorem ti_A64int : tyI Try.prog 74 = some ⟨.array 64 3, 64, 512, .agg #[.int .i64 0, .int .i64 0, .int .i64 0, .int .i64 0, .int .i64 0, .int .i64 0, .int .i64 0, .int .i64 0, .int .i64 0, .int .i64 0, .int .i64 0, .int .i64 0, .int .i64 0, .int .i64 0, .int .i64 0, .int .i64 0, .int .i64 0, .int .i64 0, .int .i64 0, .int .i64 0, .int .i64 0, .int .i64 0, .int .i64 0, .int .i64 0, .int .i64 0, .int .i64 0, .int .i64 0, .int .i64 0, .int .i64 0, .int .i64 0, .int .i64 0, .int .i64 0, .int .i64 0, .int .i64 0, .int .i64 0, .int .i64 0, .int .i64 0, .int .i64 0, .int .i64 0, .int .i64 0, .int .i64 0, .int .i64 0, .int .i64 0, .int .i64 0, .int .i64 0, .int .i64 0, .int .i64 0, .int .i64 0, .int .i64 0, .int .i64 0, .int .i64 0, .int .i64 0, .int .i64 0, .int .i64 0, .int .i64 0, .int .i64 0, .int .i64 0, .int .i64 0, .int .i64 0, .int .i64 0, .int .i64 0, .int .i64 0, .int .i64 0, .int .i64 0]⟩ := tyI_of (by kernel_rfl) Try.underlying74
theorem ti_wear_Table : tyI Try.prog 75 = some ⟨.array 64 3, 64, 512, .agg #[.int .i64 0, .int .i64 0, .int .i64 0, .int .i64 0, .int .i64 0, .int .i64 0, .int .i64 0, .int .i64 0, .int .i64 0, .int .i64 0, .int .i64 0, .int .i64 0, .int .i64 0, .int .i64 0, .int .i64 0, .int .i64 0, .int .i64 0, .int .i64 0, .int .i64 0, .int .i64 0, .int .i64 0, .int .i64 0, .int .i64 0, .int .i64 0, .int .i64 0, .int .i64 0, .int .i64 0, .int .i64 0, .int .i64 0, .int .i64 0, .int .i64 0, .int .i64 0, .int .i64 0, .int .i64 0, .int .i64 0, .int .i64 0, .int .i64 0, .int .i64 0, .int .i64 0, .int .i64 0, .int .i64 0, .int .i64 0, .int .i64 0, .int .i64 0, .int .i64 0, .int .i64 0, .int .i64 0, .int .i64 0, .int .i64 0, .int .i64 0, .int .i64 0, .int .i64 0, .int .i64 0, .int .i64 0, .int .i64 0, .int .i64 0, .int .i64 0, .int .i64 0, .int .i64 0, .int .i64 0, .int .i64 0, .int .i64 0, .int .i64 0, .int .i64 0]⟩ := tyI_of (by kernel_rfl) Try.underlying75
theorem ti_Fn5cffb803 : tyI Try.prog 76 = some ⟨.func #[47, 61] #[75] false, 1, 8, .nilFunc⟩ := tyI_of (by kernel_rfl) Try.underlying76
theorem ti_Fn45f41ffd : tyI Try.prog 77 = some ⟨.func #[75] #[3] false, 1, 8, .nilFunc⟩ := tyI_of (by kernel_rfl) Try.underlying77
theorem ti_Fn24765af6 : tyI Try.prog 78 = some ⟨.func #[47, 61] #[74] false, 1, 8, .nilFunc⟩ := tyI_of (by kernel_rfl) Try.underlying78
theorem ti_Fn15b8f98e : tyI Try.prog 79 = some ⟨.func #[3, 3] #[4] false, 1, 8, .nilFunc⟩ := tyI_of (by kernel_rfl) Try.underlying79
theorem ti_Lzone_Zone : tyI Try.prog 80 = some ⟨.slice 84, 1, 24, .slice none 0 0⟩ := tyI_of (by kernel_rfl) Try.underlying80
theorem ti_S035c288e : tyI Try.prog 81 = some ⟨.struct #[⟨ "zones", 80, 0, false, "", "revetment/zdev", 0⟩, ⟨ "limit", 3, 1, false, "", "revetment/zdev", 24⟩, ⟨ "dead", 4, 2, false, "", "revetment/zdev", 32⟩, ⟨ "bad", 3, 3, false, "", "revetment/zdev", 40⟩], 4, 48, .agg #[.slice none 0 0, .int .i64 0, .bool false, .int .i64 0]⟩ := tyI_of (by kernel_rfl) Try.underlying81
theorem ti_zdev_Dev : tyI Try.prog 82 = some ⟨.struct #[⟨ "zones", 80, 0, false, "", "revetment/zdev", 0⟩, ⟨ "limit", 3, 1, false, "", "revetment/zdev", 24⟩, ⟨ "dead", 4, 2, false, "", "revetment/zdev", 32⟩, ⟨ "bad", 3, 3, false, "", "revetment/zdev", 40⟩], 4, 48, .agg #[.slice none 0 0, .int .i64 0, .bool false, .int .i64 0]⟩ := tyI_of (by kernel_rfl) Try.underlying82
theorem ti_Sdca85bec : tyI Try.prog 83 = some ⟨.struct #[⟨ "Cap", 3, 0, false, "", "", 0⟩, ⟨ "Block", 3, 1, false, "", "", 8⟩, ⟨ "Data", 30, 2, false, "", "", 16⟩, ⟨ "Safe", 3, 3, false, "", "", 40⟩, ⟨ "Done", 4, 4, false, "", "", 48⟩], 5, 56, .agg #[.int .i64 0, .int .i64 0, .slice none 0 0, .int .i64 0, .bool false]⟩ := tyI_of (by kernel_rfl) Try.underlying83
theorem ti_zone_Zone : tyI Try.prog 84 = some ⟨.struct #[⟨ "Cap", 3, 0, false, "", "", 0⟩, ⟨ "Block", 3, 1, false, "", "", 8⟩, ⟨ "Data", 30, 2, false, "", "", 16⟩, ⟨ "Safe", 3, 3, false, "", "", 40⟩, ⟨ "Done", 4, 4, false, "", "", 48⟩], 5, 56, .agg #[.int .i64 0, .int .i64 0, .slice none 0 0, .int .i64 0, .bool false]⟩ := tyI_of (by kernel_rfl) Try.underlying84
theorem ti_Fnb4f84c53 : tyI Try.prog 85 = some ⟨.func #[3, 3] #[84] false, 1, 8, .nilFunc⟩ := tyI_of (by kernel_rfl) Try.underlying85
theorem ti_Fna8e5b76f : tyI Try.prog 86 = some ⟨.func #[87] #[] false, 1, 8, .nilFunc⟩ := tyI_of (by kernel_rfl) Try.underlying86
theorem ti_Papi_Errno : tyI Try.prog 87 = some ⟨.pointer 24, 1, 8, .pointer none⟩ := tyI_of (by kernel_rfl) Try.underlying87
theorem ti_Fnb88c09f9 : tyI Try.prog 89 = some ⟨.func #[84, 30] #[84, 24] false, 1, 8, .nilFunc⟩ := tyI_of (by kernel_rfl) Try.underlying89
theorem ti_Fn865d3930 : tyI Try.prog 90 = some ⟨.func #[84] #[4] false, 1, 8, .nilFunc⟩ := tyI_of (by kernel_rfl) Try.underlying90
theorem ti_Fn6052cac5 : tyI Try.prog 91 = some ⟨.func #[84] #[84] false, 1, 8, .nilFunc⟩ := tyI_of (by kernel_rfl) Try.underlying91
theorem ti_Fnfadcc1d0 : tyI Try.prog 92 = some ⟨.func #[3, 91] #[24] false, 1, 8, .nilFunc⟩ := tyI_of (by kernel_rfl) Try.underlying92
theorem ti_Fn74212fde : tyI Try.prog 93 = some ⟨.func #[84, 3] #[84] false, 1, 8, .nilFunc⟩ := tyI_of (by kernel_rfl) Try.underlying93
theorem ti_Fnd6b92b84 : tyI Try.prog 94 = some ⟨.func #[84] #[40] false, 1, 8, .nilFunc⟩ := tyI_of (by kernel_rfl) Try.underlying94
theorem ti_Fnf52f148a : tyI Try.prog 95 = some ⟨.func #[84, 3, 3] #[30, 24] false, 1, 8, .nilFunc⟩ := tyI_of (by kernel_rfl) Try.underlying95
theorem ti_S78937d32 : tyI Try.prog 96 = some ⟨.struct #[⟨ "W", 3, 0, false, "", "", 0⟩, ⟨ "B", 30, 1, false, "", "", 8⟩], 2, 32, .agg #[.int .i64 0, .slice none 0 0]⟩ := tyI_of (by kernel_rfl) Try.underlying96
theorem ti_api_Par : tyI Try.prog 97 = some ⟨.struct #[⟨ "W", 3, 0, false, "", "", 0⟩, ⟨ "B", 30, 1, false, "", "", 8⟩], 2, 32, .agg #[.int .i64 0, .slice none 0 0]⟩ := tyI_of (by kernel_rfl) Try.underlying97
theorem ti_Fn3d054427 : tyI Try.prog 98 = some ⟨.func #[] #[47] false, 1, 8, .nilFunc⟩ := tyI_of (by kernel_rfl) Try.underlying98
theorem ti_Fn34cfc3ef : tyI Try.prog 99 = some ⟨.func #[51] #[51] false, 1, 8, .nilFunc⟩ := tyI_of (by kernel_rfl) Try.underlying99
theorem ti_Fn20f1e77b : tyI Try.prog 100 = some ⟨.func #[101, 53] #[4] false, 1, 8, .nilFunc⟩ := tyI_of (by kernel_rfl) Try.underlying100
theorem ti_Papi_State : tyI Try.prog 101 = some ⟨.pointer 51, 1, 8, .pointer none⟩ := tyI_of (by kernel_rfl) Try.underlying101
theorem ti_Fn74f184bf : tyI Try.prog 102 = some ⟨.func #[3, 3, 3] #[4] false, 1, 8, .nilFunc⟩ := tyI_of (by kernel_rfl) Try.underlying102
theorem ti_Fnec6a3850 : tyI Try.prog 103 = some ⟨.func #[51, 104, 53] #[4] false, 1, 8, .nilFunc⟩ := tyI_of (by kernel_rfl) Try.underlying103
theorem ti_Papi_Zone : tyI Try.prog 104 = some ⟨.pointer 68, 1, 8, .pointer none⟩ := tyI_of (by kernel_rfl) Try.underlying104
theorem ti_Fnbf3c1d12 : tyI Try.prog 106 = some ⟨.func #[51, 53] #[51, 4] false, 1, 8, .nilFunc⟩ := tyI_of (by kernel_rfl) Try.underlying106
theorem ti_Fn0cc6ae3e : tyI Try.prog 108 = some ⟨.func #[51, 53] #[68, 4] false, 1, 8, .nilFunc⟩ := tyI_of (by kernel_rfl) Try.underlying108
theorem ti_Fn69fbb9f6 : tyI Try.prog 109 = some ⟨.func #[51, 3, 68] #[51] false, 1, 8, .nilFunc⟩ := tyI_of (by kernel_rfl) Try.underlying109
theorem ti_Fnf6f68b9f : tyI Try.prog 110 = some ⟨.func #[47] #[24] false, 1, 8, .nilFunc⟩ := tyI_of (by kernel_rfl) Try.underlying110
theorem ti_A7int : tyI Try.prog 111 = some ⟨.array 7 3, 7, 56, .agg #[.int .i64 0, .int .i64 0, .int .i64 0, .int .i64 0, .int .i64 0, .int .i64 0, .int .i64 0]⟩ := tyI_of (by kernel_rfl) Try.underlying111
theorem ti_Fna367efee : tyI Try.prog 112 = some ⟨.func #[47] #[111] false, 1, 8, .nilFunc⟩ := tyI_of (by kernel_rfl) Try.underlying112
theorem ti_Fne858d3c1 : tyI Try.prog 113 = some ⟨.func #[51, 68] #[4] false, 1, 8, .nilFunc⟩ := tyI_of (by kernel_rfl) Try.underlying113
theorem ti_Fn0edd68d1 : tyI Try.prog 114 = some ⟨.func #[49, 115] #[4] false, 1, 8, .nilFunc⟩ := tyI_of (by kernel_rfl) Try.underlying114
theorem ti_Fn802107b9 : tyI Try.prog 115 = some ⟨.func #[68] #[4] false, 1, 8, .nilFunc⟩ := tyI_of (by kernel_rfl) Try.underlying115
theorem ti_Fn128908bd : tyI Try.prog 117 = some ⟨.func #[30] #[47, 24] false, 1, 8, .nilFunc⟩ := tyI_of (by kernel_rfl) Try.underlying117
theorem ti_Ppack_Reader : tyI Try.prog 118 = some ⟨.pointer 156, 1, 8, .pointer none⟩ := tyI_of (by kernel_rfl) Try.underlying118
theorem ti_Fn91e0755e : tyI Try.prog 119 = some ⟨.func #[30] #[118] false, 1, 8, .nilFunc⟩ := tyI_of (by kernel_rfl) Try.underlying119
theorem ti_Fn9e06be63 : tyI Try.prog 120 = some ⟨.func #[3, 3] #[3] false, 1, 8, .nilFunc⟩ := tyI_of (by kernel_rfl) Try.underlying120
theorem ti_Fn7347dd77 : tyI Try.prog 121 = some ⟨.func #[118] #[68] false, 1, 8, .nilFunc⟩ := tyI_of (by kernel_rfl) Try.underlying121
theorem ti_Fnd841c1e4 : tyI Try.prog 122 = some ⟨.func #[47] #[30] false, 1, 8, .nilFunc⟩ := tyI_of (by kernel_rfl) Try.underlying122
theorem ti_Fn5439d5f7 : tyI Try.prog 123 = some ⟨.func #[3] #[30] false, 1, 8, .nilFunc⟩ := tyI_of (by kernel_rfl) Try.underlying123
theorem ti_Fn87e03502 : tyI Try.prog 124 = some ⟨.func #[4] #[30] false, 1, 8, .nilFunc⟩ := tyI_of (by kernel_rfl) Try.underlying124
theorem ti_Fn616305a4 : tyI Try.prog 125 = some ⟨.func #[30] #[30] false, 1, 8, .nilFunc⟩ := tyI_of (by kernel_rfl) Try.underlying125
theorem ti_Fn1d9fdf49 : tyI Try.prog 126 = some ⟨.func #[30, 3] #[30] false, 1, 8, .nilFunc⟩ := tyI_of (by kernel_rfl) Try.underlying126
theorem ti_Fnfb2f56c4 : tyI Try.prog 127 = some ⟨.func #[30, 4] #[30] false, 1, 8, .nilFunc⟩ := tyI_of (by kernel_rfl) Try.underlying127
theorem ti_Fn3d53b686 : tyI Try.prog 128 = some ⟨.func #[30, 30] #[30] false, 1, 8, .nilFunc⟩ := tyI_of (by kernel_rfl) Try.underlying128
theorem ti_Fn4bc5b1dd : tyI Try.prog 129 = some ⟨.func #[48, 48] #[4] false, 1, 8, .nilFunc⟩ := tyI_of (by kernel_rfl) Try.underlying129
theorem ti_Fn781ccef3 : tyI Try.prog 130 = some ⟨.func #[49, 49, 131] #[4] false, 1, 8, .nilFunc⟩ := tyI_of (by kernel_rfl) Try.underlying130
theorem ti_Fn901fccbe : tyI Try.prog 131 = some ⟨.func #[68, 68] #[4] false, 1, 8, .nilFunc⟩ := tyI_of (by kernel_rfl) Try.underlying131
theorem ti_Fn9abd84f7 : tyI Try.prog 133 = some ⟨.func #[75, 48] #[3, 4] false, 1, 8, .nilFunc⟩ := tyI_of (by kernel_rfl) Try.underlying133
theorem ti_Fn069ff6ec : tyI Try.prog 134 = some ⟨.func #[3] #[3] false, 1, 8, .nilFunc⟩ := tyI_of (by kernel_rfl) Try.underlying134
theorem ti_Fn57818e20 : tyI Try.prog 135 = some ⟨.func #[75, 3] #[75] false, 1, 8, .nilFunc⟩ := tyI_of (by kernel_rfl) Try.underlying135
theorem ti_Fn82e99da9 : tyI Try.prog 136 = some ⟨.func #[84] #[3] false, 1, 8, .nilFunc⟩ := tyI_of (by kernel_rfl) Try.underlying136
theorem ti_Fna7dedd25 : tyI Try.prog 137 = some ⟨.func #[162] #[30] true, 1, 8, .nilFunc⟩ := tyI_of (by kernel_rfl) Try.underlying137
theorem ti_Fn10e44a64 : tyI Try.prog 138 = some ⟨.func #[48, 3] #[4] false, 1, 8, .nilFunc⟩ := tyI_of (by kernel_rfl) Try.underlying138
theorem ti_Fn43b6eeef : tyI Try.prog 140 = some ⟨.func #[51, 68, 4] #[4] false, 1, 8, .nilFunc⟩ := tyI_of (by kernel_rfl) Try.underlying140
theorem ti_Fn06c45b05 : tyI Try.prog 141 = some ⟨.func #[48] #[48] false, 1, 8, .nilFunc⟩ := tyI_of (by kernel_rfl) Try.underlying141
theorem ti_Fn5efc35c2 : tyI Try.prog 142 = some ⟨.func #[49] #[49] false, 1, 8, .nilFunc⟩ := tyI_of (by kernel_rfl) Try.underlying142
theorem ti_Fn2b59d808 : tyI Try.prog 143 = some ⟨.func #[66] #[66] false, 1, 8, .nilFunc⟩ := tyI_of (by kernel_rfl) Try.underlying143
theorem ti_Fn6d0717d9 : tyI Try.prog 145 = some ⟨.func #[51] #[3, 3, 4] false, 1, 8, .nilFunc⟩ := tyI_of (by kernel_rfl) Try.underlying145
theorem ti_Fne8b98eaf : tyI Try.prog 146 = some ⟨.func #[51] #[3] false, 1, 8, .nilFunc⟩ := tyI_of (by kernel_rfl) Try.underlying146
theorem ti_Fnd5415aa3 : tyI Try.prog 147 = some ⟨.func #[51, 3] #[4] false, 1, 8, .nilFunc⟩ := tyI_of (by kernel_rfl) Try.underlying147
theorem ti_Fn01e7b569 : tyI Try.prog 148 = some ⟨.func #[47] #[48] false, 1, 8, .nilFunc⟩ := tyI_of (by kernel_rfl) Try.underlying148
theorem ti_Fnb9dd922e : tyI Try.prog 149 = some ⟨.func #[47, 36] #[3] false, 1, 8, .nilFunc⟩ := tyI_of (by kernel_rfl) Try.underlying149
theorem ti_Fn870e4268 : tyI Try.prog 150 = some ⟨.func #[49, 115] #[3] false, 1, 8, .nilFunc⟩ := tyI_of (by kernel_rfl) Try.underlying150
theorem ti_LPint : tyI Try.prog 151 = some ⟨.slice 154, 1, 24, .slice none 0 0⟩ := tyI_of (by kernel_rfl) Try.underlying151
theorem ti_Fnefa4a0f6 : tyI Try.prog 152 = some ⟨.func #[153] #[151] false, 1, 8, .nilFunc⟩ := tyI_of (by kernel_rfl) Try.underlying152
theorem ti_Papi_Conf : tyI Try.prog 153 = some ⟨.pointer 47, 1, 8, .pointer none⟩ := tyI_of (by kernel_rfl) Try.underlying153
theorem ti_Pint : tyI Try.prog 154 = some ⟨.pointer 3, 1, 8, .pointer none⟩ := tyI_of (by kernel_rfl) Try.underlying154
theorem ti_S4568d3be : tyI Try.prog 155 = some ⟨.struct #[⟨ "b", 30, 0, false, "", "revetment/pack", 0⟩, ⟨ "at", 3, 1, false, "", "revetment/pack", 24⟩, ⟨ "e", 24, 2, false, "", "revetment/pack", 32⟩], 3, 40, .agg #[.slice none 0 0, .int .i64 0, .int .i64 0]⟩ := tyI_of (by kernel_rfl) Try.underlying155
theorem ti_pack_Reader : tyI Try.prog 156 = some ⟨.struct #[⟨ "b", 30, 0, false, "", "revetment/pack", 0⟩, ⟨ "at", 3, 1, false, "", "revetment/pack", 24⟩, ⟨ "e", 24, 2, false, "", "revetment/pack", 32⟩], 3, 40, .agg #[.slice none 0 0, .int .i64 0, .int .i64 0]⟩ := tyI_of (by kernel_rfl) Try.underlying156
theorem ti_uint64 : tyI Try.prog 157 = some ⟨.int .u64, 1, 8, .int .u64 0⟩ := tyI_of (by kernel_rfl) Try.underlying157
theorem ti_Fn8f455dc9 : tyI Try.prog 158 = some ⟨.func #[30, 30] #[4] false, 1, 8, .nilFunc⟩ := tyI_of (by kernel_rfl) Try.underlying158
theorem ti_Fnfc752414 : tyI Try.prog 159 = some ⟨.func #[97, 97] #[4] false, 1, 8, .nilFunc⟩ := tyI_of (by kernel_rfl) Try.underlying159
theorem ti_Fn0c084e32 : tyI Try.prog 160 = some ⟨.func #[66, 66, 159] #[4] false, 1, 8, .nilFunc⟩ := tyI_of (by kernel_rfl) Try.underlying160
theorem ti_Fn33c0d1e7 : tyI Try.prog 161 = some ⟨.func #[3] #[4] false, 1, 8, .nilFunc⟩ := tyI_of (by kernel_rfl) Try.underlying161
theorem ti_LLuint8 : tyI Try.prog 162 = some ⟨.slice 30, 1, 24, .slice none 0 0⟩ := tyI_of (by kernel_rfl) Try.underlying162
theorem ti_Fn450a3b67 : tyI Try.prog 163 = some ⟨.func #[48, 3] #[3] false, 1, 8, .nilFunc⟩ := tyI_of (by kernel_rfl) Try.underlying163
theorem ti_Fnc9ac6a44 : tyI Try.prog 164 = some ⟨.func #[97] #[4] false, 1, 8, .nilFunc⟩ := tyI_of (by kernel_rfl) Try.underlying164
theorem ti_Fnc9eb139c : tyI Try.prog 165 = some ⟨.func #[66, 164] #[4] false, 1, 8, .nilFunc⟩ := tyI_of (by kernel_rfl) Try.underlying165
theorem ti_Fn13735087 : tyI Try.prog 166 = some ⟨.func #[48, 161] #[3] false, 1, 8, .nilFunc⟩ := tyI_of (by kernel_rfl) Try.underlying166
theorem ti_Fn7b4bea1c : tyI Try.prog 167 = some ⟨.func #[151] #[4] true, 1, 8, .nilFunc⟩ := tyI_of (by kernel_rfl) Try.underlying167
theorem ti_Fna4ea8c85 : tyI Try.prog 168 = some ⟨.func #[66, 164] #[3] false, 1, 8, .nilFunc⟩ := tyI_of (by kernel_rfl) Try.underlying168
theorem ti_Fnbe20ad36 : tyI Try.prog 169 = some ⟨.func #[] #[9] false, 1, 8, .nilFunc⟩ := tyI_of (by kernel_rfl) Try.underlying169
theorem ti_A0Pruntime_PanicNilError : tyI Try.prog 172 = some ⟨.array 0 16, 0, 0, .agg #[]⟩ := tyI_of (by kernel_rfl) Try.underlying172
theorem ti_See34e4f1 : tyI Try.prog 173 = some ⟨.struct #[⟨ "_", 172, 0, false, "", "runtime", 0⟩], 0, 0, .agg #[]⟩ := tyI_of (by kernel_rfl) Try.underlying173
theorem ti_runtime_PanicNilError : tyI Try.prog 174 = some ⟨.struct #[⟨ "_", 172, 0, false, "", "runtime", 0⟩], 0, 0, .agg #[]⟩ := tyI_of (by kernel_rfl) Try.underlying174
theorem ti_uint32 : tyI Try.prog 175 = some ⟨.int .u32, 1, 4, .int .u32 0⟩ := tyI_of (by kernel_rfl) Try.underlying175
theorem ti_internal_abi_TFlag : tyI Try.prog 176 = some ⟨.int .u8, 1, 1, .int .u8 0⟩ := tyI_of (by kernel_rfl) Try.underlying176
theorem ti_internal_abi_Kind : tyI Try.prog 177 = some ⟨.int .u8, 1, 1, .int .u8 0⟩ := tyI_of (by kernel_rfl) Try.underlying177
theorem ti_Fn19209128 : tyI Try.prog 178 = some ⟨.func #[184, 184] #[4] false, 1, 8, .nilFunc⟩ := tyI_of (by kernel_rfl) Try.underlying178
theorem ti_Puint8 : tyI Try.prog 179 = some ⟨.pointer 5, 1, 8, .pointer none⟩ := tyI_of (by kernel_rfl) Try.underlying179
theorem ti_internal_abi_NameOff : tyI Try.prog 180 = some ⟨.int .i32, 1, 4, .int .i32 0⟩ := tyI_of (by kernel_rfl) Try.underlying180
theorem ti_internal_abi_TypeOff : tyI Try.prog 181 = some ⟨.int .i32, 1, 4, .int .i32 0⟩ := tyI_of (by kernel_rfl) Try.underlying181
theorem mixed : Try.prog.follows .mixedOrders = true := by kernel_rfl
end Go.Proofs.Ytlegolcbjjjofaa.AmF
